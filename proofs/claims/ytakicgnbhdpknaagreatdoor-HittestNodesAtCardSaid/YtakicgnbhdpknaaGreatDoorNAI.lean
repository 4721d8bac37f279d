/- A call to which several blocks of one's own are handed over. -/
import Derived.Test.YtakicgnbhdpknaaGreatDoorNAH
set_option maxRecDepth 100000
set_option maxHeartbeats 8000000
set_option linter.all false
namespace Go.Gs
def jH.named{S Pm:LI}{ρ:zh}{w:World}{k:Nat}{m:Mem}(h:jH S Pm ρ w k m):∃v,ρ k=some v:=by
 cases m with
 |box T cs=>obtain⟨b,vs,h1,_⟩:=h;exact⟨_,h1⟩
 |arr T enc sz xs=>obtain⟨v,cells,h1,_⟩:=h;exact⟨_,h1⟩
 |garr T sz xs=>obtain⟨v,cells,h1,_⟩:=h;exact⟨_,h1⟩
 |map es=>obtain⟨r,ents,clock,h1,_⟩:=h;exact⟨_,h1⟩
section
variable{S S' Pm Pm':LI}{ρ ρ':zh}{w:World}{ks:LC}{κ n:Nat}
def zjD(hP:∀b,Pm' b->Pm b)(hρ:∀k v,k<n->ρ (rn ks κ k)=some v->ρ' k=some v):∀(s:SV) {v:Value},vG n s=true->G S Pm ρ w (zaJ ks κ s) v->G S Pm' ρ' w s v:=by
 intro s
 induction s using SV.rec (motive_2:=λcs=>∀{vs:LA},vG.lows n cs=true->Gs S Pm ρ w (zaJ.rens ks κ cs) vs->Gs S Pm' ρ' w cs vs) with
 |val v=>intro u _ hg;exact .d _ _ (hg.val_inv ▸ .val _)
 |pr p i=>intro u _ hg;rw[hg.pr_inv];exact .d _ _ (.pr p i)
 |sl enc xs=>intro u _ hg;exact .d _ _ hg.sl_inv
 |nils=>intro u _ hg;obtain⟨a,rfl⟩:=hg.nils_inv;exact .d _ _ (.nils a)
 |anyb=>intro u _ hg;obtain⟨b,rfl⟩:=hg.anyb_inv;exact .d _ _ (.anyb b)
 |full enc xs=>intro u _ hg;obtain⟨a,rfl,hd⟩:=hg.full_inv;exact .d _ _ (.full enc xs a hd)
 |dptr cs _=>intro u _ hg;cases hg with|d _ _ h=>exact .d _ _ h
 |dfn f cs _=>intro u _ hg;cases hg with|d _ _ h=>exact .d _ _ h
 |bm f cs _=>intro u _ hg;cases hg with|d _ _ h=>exact .d _ _ h
 |op v=>intro u _ hg;cases hg with|d _ _ h=>exact .d _ _ h
 |junk=>intro u _ _;exact .d _ _ (.junk u)
 |ptr cs _=>
  intro u _ hg
  cases hg with
  |d _ _ h=>cases h
  |ptr _ b o c hb hPb hc h=>exact .ptr _ b o c hb (λhp=>hPb (hP b hp)) hc h
 |agg cs ih=>
  intro u h hg;obtain⟨vs,rfl,hvs⟩:=hg.agg_inv;have:=ih h hvs;exact .agg _ vs this.1 this.2
 |tup cs ih=>
  intro u h hg;obtain⟨vs,rfl,hvs⟩:=hg.tup_inv;have:=ih h hvs;exact .tup _ vs this.1 this.2
 |fn f cs ih=>
  intro u h hg;obtain⟨vs,rfl,hvs⟩:=hg.fn_inv;have:=ih h hvs;exact .fn _ _ vs this.1 this.2
 |ifc t s ih=>
  intro u h hg;obtain⟨v,rfl,hv⟩:=hg.ifc_inv;exact .ifc t _ v (ih h hv)
 |loc k off=>
  intro u h hg;obtain⟨b,g1,rfl⟩:=hg.loc_inv;exact .loc _ _ _ (hρ k _ (by simpa[vG] using h) g1)
 |own k=>
  intro u h hg;obtain⟨g1,g2⟩:=hg.own_inv;exact .own _ _ (hρ k _ (by simpa[vG] using h) g1) g2
 |eloc k sz i off=>
  intro u h hg;obtain⟨b,len,cap,g1,rfl⟩:=hg.eloc_inv;exact .eloc _ _ _ _ b len cap (hρ k _ (by simpa[vG] using h) g1)
 |win k sz lo m=>
  intro u h hg;obtain⟨b,len,cap,cap',g1,rfl,g2,g3⟩:=hg.win_inv;exact .win _ _ _ _ b len cap cap' (hρ k _ (by simpa[vG] using h) g1) g2 g3
 |nil=>
  rename_i vs _ hg;rw[Gs.nil_inv hg];exact .nil
 |cons c cs ih1 ih2=>
  rename_i vs h hg;simp only[vG.lows]at h
  split at h
  ·rename_i h1;obtain⟨v,vs',rfl,g1,g2⟩:=hg.cons_inv;exact .cons (ih1 h1 g1) (ih2 h g2)
  cases h
def zrS(hS:∀b,S b->S' b)(hρ:∀k v,k<n->ρ' k=some v->ρ (rn ks κ k)=some v):∀(s:SV) {v:Value},zcp n s=true->G S' Pm' ρ' w s v->G S Pm ρ w (zaJ ks κ s) v:=by
 intro s
 induction s using SV.rec (motive_2:=λcs=>∀{vs:LA},zcp.outs n cs=true->Gs S' Pm' ρ' w cs vs->Gs S Pm ρ w (zaJ.rens ks κ cs) vs) with
 |val v=>intro u _ hg;exact .d _ _ (hg.val_inv ▸ .val _)
 |pr p i=>intro u _ hg;rw[hg.pr_inv];exact .d _ _ (.pr p i)
 |sl enc xs=>intro u _ hg;exact .d _ _ (hg.sl_inv.less hS)
 |nils=>intro u _ hg;obtain⟨a,rfl⟩:=hg.nils_inv;exact .d _ _ (.nils a)
 |anyb=>intro u _ hg;obtain⟨b,rfl⟩:=hg.anyb_inv;exact .d _ _ (.anyb b)
 |full enc xs=>intro u _ hg;obtain⟨a,rfl,hd⟩:=hg.full_inv;exact .d _ _ (.full enc xs a (hd.less hS))
 |dptr cs _=>intro u _ hg;cases hg with|d _ _ h=>exact .d _ _ (h.less hS)
 |dfn f cs _=>intro u _ hg;cases hg with|d _ _ h=>exact .d _ _ (h.less hS)
 |bm f cs _=>intro u _ hg;cases hg with|d _ _ h=>exact .d _ _ (h.less hS)
 |op v=>intro u _ hg;cases hg with|d _ _ h=>exact .d _ _ (h.less hS)
 |junk=>intro u _ _;exact .d _ _ (.junk u)
 |ptr cs _=>intro u h _;cases h
 |agg cs ih=>
  intro u h hg;obtain⟨vs,rfl,hvs⟩:=hg.agg_inv;have:=ih h hvs;exact .agg _ vs this.1 this.2
 |tup cs ih=>
  intro u h hg;obtain⟨vs,rfl,hvs⟩:=hg.tup_inv;have:=ih h hvs;exact .tup _ vs this.1 this.2
 |fn f cs ih=>
  intro u h hg;obtain⟨vs,rfl,hvs⟩:=hg.fn_inv;have:=ih h hvs;exact .fn _ _ vs this.1 this.2
 |ifc t s ih=>
  intro u h hg;obtain⟨v,rfl,hv⟩:=hg.ifc_inv;exact .ifc t _ v (ih h hv)
 |loc k off=>
  intro u h hg;obtain⟨b,g1,rfl⟩:=hg.loc_inv;exact .loc _ _ _ (hρ k _ (by simpa[zcp] using h) g1)
 |own k=>
  intro u h hg;obtain⟨g1,g2⟩:=hg.own_inv;exact .own _ _ (hρ k _ (by simpa[zcp] using h) g1) g2
 |eloc k sz i off=>
  intro u h hg;obtain⟨b,len,cap,g1,rfl⟩:=hg.eloc_inv;exact .eloc _ _ _ _ b len cap (hρ k _ (by simpa[zcp] using h) g1)
 |win k sz lo m=>
  intro u h hg;obtain⟨b,len,cap,cap',g1,rfl,g2,g3⟩:=hg.win_inv;exact .win _ _ _ _ b len cap cap' (hρ k _ (by simpa[zcp] using h) g1) g2 g3
 |nil=>
  rename_i vs _ hg;rw[Gs.nil_inv hg];exact .nil
 |cons c cs ih1 ih2=>
  rename_i vs h hg;simp only[zcp.outs]at h
  split at h
  ·rename_i h1;obtain⟨v,vs',rfl,g1,g2⟩:=hg.cons_inv;exact .cons (ih1 h1 g1) (ih2 h g2)
  cases h
def zaQ:∀cs:LR,(zaJ.rens ks κ cs).length=cs.length
 |[]=>rfl
 |c::cs=>by simp only[zaJ.rens,Xn,zaQ cs]
def zaR:∀(cs:LR) (j:Nat),(zaJ.rens ks κ cs)[j]?=(cs[j]?).map (zaJ ks κ)
 |[],j=>by simp[zaJ.rens]
 |c::cs,0=>by simp[zaJ.rens]
 |c::cs,j+1=>by simpa[zaJ.rens] using zaR cs j
def za5:∀{cs:LR},vG.lows n cs=true->∀(j:Nat) (s:SV),cs[j]?=some s->vG n s=true
 |[],_,j,s,h=>by simp at h
 |c::cs,hl,j,s,h=>by
  simp only[vG.lows]at hl
  split at hl
  ·rename_i h1
   cases j with
   |zero=>simp at h;subst h;exact h1
   |succ j=>exact za5 hl j s (by simpa using h)
  cases hl
def zjE:∀{cs:LR},zcp.outs n cs=true->∀(j:Nat) (s:SV),cs[j]?=some s->zcp n s=true
 |[],_,j,s,h=>by simp at h
 |c::cs,hl,j,s,h=>by
  simp only[zcp.outs]at hl
  split at hl
  ·rename_i h1
   cases j with
   |zero=>simp at h;subst h;exact h1
   |succ j=>exact zjE hl j s (by simpa using h)
  cases hl
def zuV(hP:∀b,Pm' b->Pm b)(hρ:∀k v,k<n->ρ (rn ks κ k)=some v->ρ' k=some v){j:Nat}(hj:j<n){m:Mem}(hl:lowM n m)(h:jH S Pm ρ w (rn ks κ j) (zlD ks κ m)):jH S Pm' ρ' w j m:=by
 cases m with
 |box T cs=>
  obtain⟨b,vs,h1,h2,h3,h4,h5⟩:=h;refine⟨b,vs,hρ j _ hj h1,h2,h3.trans (zaQ cs),h4,λi s v hs hv=>?_⟩;exact zjD hP hρ s (za5 hl i s hs) (h5 i _ v (by rw[zaR,hs];rfl) hv)
 |arr T enc sz xs=>
  obtain⟨v,cells,h1,h2,h3,h4,h5,h6⟩:=h;exact⟨v,cells,hρ j _ hj h1,h2,h3,h4,h5,h6⟩
 |garr T sz xs=>
  obtain⟨v,cells,h1,h2,h3,h4,h5,h6⟩:=h;refine⟨v,cells,hρ j _ hj h1,by simpa using h2,by simpa using h3,h4,λx hx=>?_,λi q x s hx hs=>?_⟩
  ·have:=h5 _ (List.mem_map_of_mem hx)
   rwa [zaQ]at this
  obtain⟨u,hu,hg⟩:=h6 i q (zaJ.rens ks κ x) (zaJ ks κ s) (by rw[XD,hx];rfl) (by rw[zaR,hs];rfl);exact⟨u,hu,zjD hP hρ s (za5 (hl x (Xf hx)) q s hs) hg⟩
 |map es=>
  obtain⟨r,ents,clock,h1,h2,h3,h4⟩:=h;exact⟨r,ents,clock,hρ j _ hj h1,h2,h3,h4⟩
def zAp(hS:∀b,S b->S' b)(hρ:∀k v,k<n->ρ' k=some v->ρ (rn ks κ k)=some v){j:Nat}(hj:j<n){m:Mem}(hl:outM n m)(h:jH S' Pm' ρ' w j m):jH S Pm ρ w (rn ks κ j) (zlD ks κ m):=by
 cases m with
 |box T cs=>
  obtain⟨b,vs,h1,h2,h3,h4,h5⟩:=h;refine⟨b,vs,hρ j _ hj h1,h2,h3.trans (zaQ cs).symm,h4,λi s v hs hv=>?_⟩;rw[zaR]at hs
  cases hc:cs[i]? with
  |none=>simp[hc]at hs
  |some c=>
   simp[hc]at hs;subst hs;exact zrS hS hρ c (zjE hl i c hc) (h5 i c v hc hv)
 |arr T enc sz xs=>
  obtain⟨v,cells,h1,h2,h3,h4,h5,h6⟩:=h;refine⟨v,cells,hρ j _ hj h1,h2,h3,h4,h5,λi q x s hx hs=>?_⟩;obtain⟨u,hu,hd⟩:=h6 i q x s hx hs;exact⟨u,hu,hd.less hS⟩
 |garr T sz xs=>
  obtain⟨v,cells,h1,h2,h3,h4,h5,h6⟩:=h;refine⟨v,cells,hρ j _ hj h1,by simpa using h2,by simpa using h3,h4,λx hx=>?_,λi q x s hx hs=>?_⟩
  ·obtain⟨y,hy,rfl⟩:=XO.1 hx;rw[zaQ];exact h5 y hy
  rw[XD]at hx
  cases hy:xs[i]? with
  |none=>simp[hy]at hx
  |some y=>
   simp[hy]at hx;subst hx;rw[zaR]at hs
   cases hc:y[q]? with
   |none=>simp[hc]at hs
   |some c=>
    simp[hc]at hs;subst hs;obtain⟨u,hu,hg⟩:=h6 i q y c hy hc;exact⟨u,hu,zrS hS hρ c (zjE (hl y (Xf hy)) q c hc) hg⟩
 |map es=>
  obtain⟨r,ents,clock,h1,h2,h3,h4⟩:=h;refine⟨r,ents,clock,hρ j _ hj h1,h2,h3,λi n s hi=>?_⟩;obtain⟨e,g1,g2,g3⟩:=h4 i n s hi;exact⟨e,g1,g2,g3.less hS⟩
end
section
def zdt{x:Nat×Mem}:∀{ks:LC} {M:LT},x∈uM M ks->x∈M
 |[],_,h=>h
 |k::_,M,h=>qB x (zdt (M:=qg M k) h)
def zbW:∀{ks:LC} {M:LT},M.Pairwise (λa b=>a.1≠b.1)->(uM M ks).Pairwise λa b=>a.1≠b.1
 |[],_,h=>h
 |k::ks,M,h=>zbW (ks:=ks) (M:=qg M k) (jg h)
def zjF{x:Nat×Mem}:∀{ks:LC} {M:LT},M.Pairwise (λa b=>a.1≠b.1)->x∈uM M ks->x.1∉ks
 |[],_,_,_=>by simp
 |k::r,M,hp,h=>by
  intro hk
  cases hk with
  |head=>exact v9 hp x (zdt (M:=qg M x.1) h) rfl
  |tail _ hk=>exact zjF (jg hp) h hk
def zjG{k:Nat}:∀{l:LC},k∈l->zrD k l=true
 |[],h=>(by cases h)
 |x::r,h=>by
  simp only[zrD]
  split
  ·rfl
  rename_i hb
  cases h with
  |head=>simp[K8]at hb
  |tail _ h=>exact zjG h
def zfu:∀{l:LC},zbJ l=true->∀(i j k:Nat),l[i]?=some k->l[j]?=some k->i=j
 |[],_,i,j,k,h,_=>by simp at h
 |x::r,hn,i,j,k,hi,hj=>by
  simp only[zbJ]at hn
  split at hn
  ·cases hn
  rename_i hm
  have out:∀q:Nat,r[q]? ≠some x:=λq hq=>by
   have:=zjG (Xf hq);rw[this]at hm;cases hm
  match i,j with
  |0,0=>rfl
  |0,j+1=>simp at hi hj;subst hi;exact absurd hj (out j)
  |i+1,0=>simp at hi hj;subst hj;exact absurd hi (out i)
  |i+1,j+1=>rw[zfu hn i j k (by simpa using hi) (by simpa using hj)]
def zjH{n:Nat}:∀{l:LT},zo3 n l=true->∀k m,(k,m)∈l->k<n
 |[],_,k,m,h=>(by cases h)
 |(q,y)::r,hb,k,m,h=>by
  simp only[zo3]at hb;obtain⟨h1,h2⟩:=kj hb
  cases h with
  |head=>simpa using h1
  |tail _ h=>exact zjH h2 k m h
def zpr{k:Nat}{m:Mem}:∀{l:LT},(k,m)∈l->memM k l=true
 |[],h=>(by cases h)
 |(q,y)::r,h=>by
  simp only[memM]
  split
  ·rfl
  rename_i hb
  cases h with
  |head=>simp[K8]at hb
  |tail _ h=>exact zpr h
def zie:∀{l:LT},zjm l=true->l.Pairwise λa b=>a.1≠b.1
 |[],_=>List.Pairwise.nil
 |(q,y)::r,h=>by
  simp only[zjm]at h
  split at h
  ·cases h
  rename_i hm;refine X9.2 ⟨λz hz e=>?_,zie h⟩;obtain⟨k,m⟩:=z;have e:q=k:=e;subst e;rw[zpr hz]at hm;cases hm
def zjI:∀{n:Nat} {K:LI},zCj n K->K n
 |0,_,h=>h
 |n+1,_,h=>zjI (n:=n) h
def zf8:∀{l:LR} {K:LR->Prop},znB l K->K l
 |[],_,h=>h
 |c::l,K,h=>zf8 (l:=l) (K:=λr=>K (c::r)) (qL (s:=c) (K:=λc=>znB l λr=>K (c::r)) h)
def znP{m:Mem}{K:Mem->Prop}(h:znC m K):K m:=by
 cases m with
 |box T cs=>exact zf8 (K:=λcs=>K (.box T cs)) h
 |arr T enc sz xs=>exact h
 |garr T sz xs=>exact h
 |map es=>exact h
def zf9:∀{l:LT} {K:LT->Prop},ziR l K->K l
 |[],_,h=>h
 |(k,m)::l,K,h=>zf9 (l:=l) (K:=λr=>K ((k,m)::r)) (znP (m:=m) (K:=λm=>ziR l λr=>K ((k,m)::r)) (zjI (n:=k) (K:=λk=>znC m λm=>ziR l λr=>K ((k,m)::r)) h))
def zbw{lm:LJ}{ks0:LC}{κ:Nat}{Mc:LT}:∀{ks:LC} {i:Nat},ziQ lm ks0 κ Mc i ks->∀(q k:Nat),ks[q]?=some k->∃m,zU Mc (i+q)=some m/\lm k=some (zlD ks0 κ m)/\lowM ks0.length m
 |[],i,_,q,k,h=>by simp at h
 |x::r,i,hg,q,k,h=>by
  cases q with
  |zero=>simp at h;subst h;exact hg.1
  |succ q=>
   have:=zbw hg.2 q k (by simpa using h)
   rwa [show i+1+q=i+(q+1) by omega]at this
def jL{n:Nat}:∀{l:LT},zny n l->∀j m,(j,m)∈l->j<n/\outM n m
 |[],_,j,m,h=>(by cases h)
 |(q,y)::r,hl,j,m,h=>by
  cases h with
  |head=>exact⟨by simpa using hl.1.1,hl.1.2⟩
  |tail _ h=>exact jL hl.2 j m h
def um{ks:LC}{κ:Nat}:∀{l:LT} {k:Nat} {m:Mem},(k,m)∈zbs ks κ l->∃j m0,(j,m0)∈l/\k=rn ks κ j/\m=zlD ks κ m0
 |[],_,_,h=>(by cases h)
 |(q,y)::r,k,m,h=>by
  cases h with
  |head=>exact⟨q,y,.head _,rfl,rfl⟩
  |tail _ h=>
   obtain⟨j,m0,h1,h2⟩:=um h;exact⟨j,m0,.tail _ h1,h2⟩
def zl7{ks:LC}{κ:Nat}:∀{l:LT} {j:Nat} {m:Mem},(j,m)∈l->(rn ks κ j,zlD ks κ m)∈zbs ks κ l
 |(q,y)::r,j,m,h=>by
  cases h with
  |head=>exact .head _
  |tail _ h=>exact .tail _ (zl7 h)
variable{ks:LC}{κ:Nat}{j:Nat}
def zga{k:Nat}(h:ks[j]?=some k):rn ks κ j=k:=by unfold rn;rw[h]
def zfv(h:ks.length<=j):rn ks κ j=κ+(j-ks.length):=by unfold rn;rw[XF h]
variable{P:Program}{lm:LJ}
def zrT{f:FuncId}{za:LR}{nn:Nat}{args':LR}{Mc M':LT}{r:SV}(hcall:qx P f args' Mc r M')(ha:LEs za (zaJ.rens ks κ args'))(hl:vG.lows ks.length args'=true)(hn:zbJ ks=true)(hk:uv (Nat.beq Mc.length ks.length) (uv (zo3 ks.length Mc) (zjm Mc))=true)(hM:ziQ lm ks κ Mc 0 ks)(hr:zcp (ks.length+nn) r=true)(hM':zny (ks.length+nn) M'){Keep:LI}{M:LT}{ρ:zh}{w:World}(hlm:∀k m,lm k=some m->zU M k=some m)(hm:zL Keep M ρ w)(hκ:∀k,κ<=k->k<κ+nn->ρ k=none){vs:LA}(hg:Gs (λb=>Keep b∨Own M ρ b) (Own M ρ) ρ w za vs):
  Calls P f vs.toArray w λe w'=>∃v,e=.returned v/\k8 Keep M ρ w κ (zaJ ks κ r) (.give ks (zbs ks κ M') nn) v w':=by
 obtain⟨hlen,hk⟩:=kj hk;obtain⟨hkb,hkd⟩:=kj hk;have hkd:=zie hkd;have hlen:=Xj hlen;obtain⟨n,hnl⟩:∃n,n=ks.length:=⟨_,rfl⟩;rw[←hnl]at hlen hkb hl hr hM'
 -- the callee's names
 obtain⟨ρc,hρc⟩:∃ρc:zh,∀j,ρc j=(match ks[j]? with|some k=>ρ k|none=>none):=⟨_,λ_=>rfl⟩
 have given:∀j m,(j,m)∈Mc->∃k,ks[j]?=some k/\zU Mc j=some m/\lm k=some (zlD ks κ m)/\lowM n m:=λj m hj=>by
  have hjn:=zjH hkb j m hj;have hkj:=Xb (show j<ks.length by omega);obtain⟨m',h1,h2,h3⟩:=zbw hM j _ hkj;rw[Kc]at h1
  have:m'=m:=by
   have h4:=zA h1
   by_cases e:(j,m')=(j,m)
   ·simpa using e
   exfalso
   have:=hkd;obtain⟨a,ha'⟩:=Jy h4;obtain⟨b,hb'⟩:=Jy hj;have hne:a≠b:=λe'=>by subst e';rw[ha']at hb';cases hb';exact e rfl
   rw[JN]at this;obtain⟨al,ae⟩:=Xd.1 ha';obtain⟨bl,be⟩:=Xd.1 hb'
   rcases Nat.lt_or_gt_of_ne hne with h|h
   ·have:=this a b al bl h;rw[ae,be]at this;exact this rfl
   have:=this b a bl al h;rw[ae,be]at this;exact this rfl
  subst this;exact⟨_,hkj,h1,h2,by rw[hnl];exact h3⟩
 have hdown:∀k v,k<n->ρ (rn ks κ k)=some v->ρc k=some v:=λk v hkn hv=>by
  have hkj:=Xb (show k<ks.length by omega);rw[zga hkj]at hv;rw[hρc,hkj];exact hv
 have ownc:∀b,Own Mc ρc b->∃j k m v,(j,m)∈Mc/\ks[j]?=some k/\(k,zlD ks κ m)∈M/\ρ k=some v/\qb v=some b:=by
  rintro b ⟨j,m,v,h1,h2,h3⟩
  obtain⟨k,hkj,_,hlk,_⟩:=given j m h1;rw[hρc,hkj]at h2;exact⟨j,k,m,v,h1,hkj,zA (hlm k _ hlk),h2,h3⟩
 have ownsub:∀b,Own Mc ρc b->Own M ρ b:=λb hb=>by
  obtain⟨j,k,m,v,_,_,h1,h2,h3⟩:=ownc b hb;exact⟨k,_,v,h1,h2,h3⟩
 obtain⟨R,hR⟩:∃R,R=uM M ks:=⟨_,rfl⟩;have memR:∀x,x∈R->x∈M/\x.1∉ks:=λx hx=>by subst hR;exact⟨zdt hx,zjF hm.keys hx⟩
 obtain⟨Kp,hKp⟩:∃Kp:LI,∀b,Kp b↔(Keep b∨Own R ρ b):=⟨_,λ_=>K5⟩;have ownR:∀b,Own R ρ b->Own M ρ b:=λb ⟨k,m,v,h1,h2,h3⟩=>⟨k,m,v,(memR _ h1).1,h2,h3⟩
 have split:∀b,Keep b∨Own M ρ b->Kp b∨Own Mc ρc b:=by
  rintro b (hb|⟨k,m,v,h1,h2,h3⟩)
  ·exact .inl ((hKp b).2 (.inl hb))
  by_cases hks:k∈ks
  ·obtain⟨j,hj⟩:=Jy hks;obtain⟨m',g1,g2,_⟩:=zbw hM j k hj;rw[Kc]at g1;exact .inr ⟨j,m',v,zA g1,by rw[hρc,hj];exact h2,h3⟩
  refine .inl ((hKp b).2 (.inr ⟨k,m,v,?_,h2,h3⟩));subst hR
  have hin:∀{ks:LC} {M:LT},(k,m)∈M->k∉ks->(k,m)∈uM M ks:=by
   intro ks
   induction ks with
   |nil=>intro M h _;exact h
   |cons q r ih=>
    intro M h hq;refine ih (M:=qg M q) ?_ (λe=>hq (.tail _ e));have hne:k≠q:=λe=>hq (e ▸ .head _)
    clear ih hq
    induction M with
    |nil=>cases h
    |cons x xs ihx=>
     obtain⟨a,y⟩:=x;simp only[qg]
     split
     ·rename_i hb;have:=Xj hb;subst this
      cases h with
      |head=>exact absurd rfl hne
      |tail _ h=>exact h
     cases h with
     |head=>exact .head _
     |tail _ h=>exact .tail _ (ihx h)
  exact hin h1 hks
 have unsplit:∀b,Kp b∨Own Mc ρc b->Keep b∨Own M ρ b:=λb hb=>hb.elim (λh=>((hKp b).1 h).imp id (ownR b)) λh=>.inr (ownsub b h)
 have apartR:∀b,Kp b->¬Own Mc ρc b:=λb hb ho=>by
  obtain⟨j,k,m,v,_,hkj,h1,h2,h3⟩:=ownc b ho
  rcases(hKp b).1 hb with hb|⟨k',m',v',g1,g2,g3⟩
  ·exact(hm.old b ⟨k,_,v,h1,h2,h3⟩).2 hb
  have hne:k≠k':=λe=>(memR _ g1).2 (e ▸ Xf hkj)
  exact hm.apart k _ k' m' v v' b h1 (memR _ g1).1 hne h2 g2 h3 g3
 have hkp:∀b,Kp b->b<w.heap.size:=λb hb=>((hKp b).1 hb).elim (hm.kp b) λh=>(hm.old b (ownR b h)).1
 have hmc:zL Kp Mc ρc w:=by
  refine⟨λj m hj=>?_,hkd,λj m j' m' v v' b h1 h2 hne g1 g2 g3 g4=>?_,λb hb=>⟨(hm.old b (ownsub b hb)).1,λh=>apartR b h hb⟩,hkp,λg v h=>⟨λho=>(hm.gl g v h).1 (ownsub g ho),hm.glc h⟩⟩
  ·obtain⟨k,hkj,_,hlk,hlow⟩:=given j m hj;have hmem:=hm.rel k _ (zA (hlm k _ hlk))
   have hmem2:jH (λb=>Kp b∨Own Mc ρc b) (Own M ρ) ρ w (rn ks κ j) (zlD ks κ m):=by
    rw[zga hkj];have hS:(λb=>Kp b∨Own Mc ρc b)=λb=>Keep b∨Own M ρ b:=funext λb=>propext ⟨unsplit b,split b⟩
    rw[hS];exact hmem
   exact zuV ownsub hdown (zjH hkb j m hj) hlow hmem2
  obtain⟨k,hkj,_,hlk,_⟩:=given j m h1;obtain⟨k',hkj',_,hlk',_⟩:=given j' m' h2;rw[hρc,hkj]at g1;rw[hρc,hkj']at g2;exact hm.apart k _ k' _ v v' b (zA (hlm k _ hlk)) (zA (hlm k' _ hlk')) (λe=>hne (zfu hn j j' k hkj (e ▸ hkj'))) g1 g2 g3 g4
 have hargs:Gs (λb=>Kp b∨Own Mc ρc b) (Own Mc ρc) ρc w args' vs:=by
  have hS:(λb=>Kp b∨Own Mc ρc b)=λb=>Keep b∨Own M ρ b:=funext λb=>propext ⟨unsplit b,split b⟩
  rw[hS]
  have h1:Gs (λb=>Keep b∨Own M ρ b) (Own M ρ) ρ w (zaJ.rens ks κ args') vs:=by
   clear hl;generalize zaJ.rens ks κ args'=bs at ha
   induction ha generalizing vs with
   |nil=>exact hg
   |cons h t ih=>
    obtain⟨v,vs',rfl,g1,g2⟩:=hg.cons_inv;exact .cons (h _ _ _ _ _ g1) (ih g2)
  refine⟨h1.1.trans (zaQ args'),λj s v hs hv=>?_⟩;exact zjD ownsub hdown s (za5 hl j s hs) (h1.2 j _ v (by rw[zaR,hs];rfl) hv)
 refine(hcall.2 Kp ρc w vs hkp hmc (λk hk=>?_) hargs).mono ?_
 ·rw[hρc,XF oM]
 rintro e w' ⟨v,ρ',rfl,hs,hm',hgr⟩
 refine⟨v,rfl,?_⟩
 -- the caller's names
 obtain⟨ρ2,hρ2⟩:∃ρ2:zh,∀k,ρ2 k=if κ<=k/\k<κ+nn then ρ' (n+(k-κ)) else ρ k:=⟨_,λ_=>rfl⟩
 have named:∀j k,ks[j]?=some k->∃v,ρ k=some v/\ρ' j=some v:=λj k hj=>by
  obtain⟨m',g1,g2,_⟩:=zbw hM j k hj;obtain⟨v,hv⟩:=(hm.rel k _ (zA (hlm k _ g2))).named;exact⟨v,hv,hs.rho j v (by rw[hρc,hj];exact hv)⟩
 have hup:∀j v,j<n+nn->ρ' j=some v->ρ2 (rn ks κ j)=some v:=λj v hj hv=>by
  by_cases hjn:j<n
  ·have hkj:=Xb (show j<ks.length by omega);obtain⟨v1,h1,h2⟩:=named j _ hkj;rw[hv]at h2;cases h2
   rw[zga hkj,hρ2,Xc,h1]
   rintro⟨h3,h4⟩
   rw[hκ _ h3 h4]at h1;cases h1
  rw[zfv oM,hρ2,Xe oM];rw[←hnl,show n+(κ+(j-n)-κ)=j by omega];exact hv
 have hrho:∀k v,ρ k=some v->ρ2 k=some v:=λk v hv=>by
  rw[hρ2,Xc,hv]
  rintro⟨h3,h4⟩
  rw[hκ _ h3 h4]at hv;cases hv
 have back:∀j v,j<n+nn->ρ2 (rn ks κ j)=some v->ρ' j=some v:=λj v hj hv=>by
  by_cases hjn:j<n
  ·have hkj:=Xb (show j<ks.length by omega);obtain⟨v1,h1,h2⟩:=named j _ hkj;have:=hrho _ _ h1;rw[zga hkj,this]at hv;cases hv
   exact h2
  rw[zfv oM,hρ2,Xe oM,←hnl,show n+(κ+(j-n)-κ)=j by omega]at hv;exact hv
 have nameR:∀k m,(k,m)∈R->∃v,ρ k=some v/\ρ2 k=some v:=λk m hk=>by
  obtain⟨v,hv⟩:=(hm.rel k m (memR _ hk).1).named;exact⟨v,hv,hrho k v hv⟩
 have ownNew:∀b,Own (zbs ks κ M'++R) ρ2 b↔(Own M' ρ' b∨Own R ρ b):=λb=>by
  constructor
  ·rintro⟨k,m,v1,h1,h2,h3⟩
   rcases Xs.1 h1 with h1|h1
   ·obtain⟨j,m0,g1,rfl,_⟩:=um h1;exact .inl ⟨j,m0,v1,g1,back j v1 (jL hM' j m0 g1).1 h2,h3⟩
   obtain⟨v2,g1,g2⟩:=nameR k m h1;rw[h2]at g2;cases g2
   exact .inr ⟨k,m,v1,h1,g1,h3⟩
  rintro(⟨j,m,v1,h1,h2,h3⟩|⟨k,m,v1,h1,h2,h3⟩)
  ·exact⟨_,_,v1,Qg _ (zl7 h1),hup j v1 (jL hM' j m h1).1 h2,h3⟩
  exact⟨k,m,v1,Qu _ h1,hrho k v1 h2,h3⟩
 have hset:∀b,Keep b∨Own (zbs ks κ M'++R) ρ2 b->Kp b∨Own M' ρ' b:=λb hb=>by
  rcases hb with hb|hb
  ·exact .inl ((hKp b).2 (.inl hb))
  rcases(ownNew b).1 hb with h|h
  ·exact .inr h
  exact .inl ((hKp b).2 (.inr h))
 have hst:Stp (Own M ρ) (Own (zbs ks κ M'++R) ρ2) ρ ρ2 w w':=by
  refine⟨hs.os,hs.tape,hs.output,hs.size,λb hb hnb=>hs.block b hb λho=>hnb (ownsub b ho),λb hb=>?_,hrho⟩
  rcases(ownNew b).1 hb with h|h
  ·exact(hs.own b h).imp (ownsub b) id
  exact .inl (ownR b h)
 have keyNew:∀k m,(k,m)∈zbs ks κ M'->k∉(R.map (·.1)):=λk m hk hin=>by
  obtain⟨j,m0,g1,rfl,_⟩:=um hk;obtain⟨⟨k2,m2⟩,h1,h2⟩:=XO.1 hin;have h2:k2=rn ks κ j:=h2
  by_cases hjn:j<n
  ·have hkj:=Xb (show j<ks.length by omega);rw[zga hkj]at h2;exact(memR _ h1).2 (h2 ▸ Xf hkj)
  have:=(jL hM' j m0 g1).1;rw[zfv oM]at h2;obtain⟨v1,hv1,_⟩:=nameR k2 m2 h1;rw[hκ k2 oM oM]at hv1;cases hv1
 have rninj:∀j j',j<n+nn->j'<n+nn->rn ks κ j=rn ks κ j'->j=j':=λj j' hj hj' he=>by
  by_cases h1:j<n <;> by_cases h2:j'<n
  ·have k1:=Xb (show j<ks.length by omega);have k2:=Xb (show j'<ks.length by omega);rw[zga k1,zga k2]at he;exact zfu hn j j' _ k1 (by rw[k2,he])
  ·have k1:=Xb (show j<ks.length by omega);obtain⟨v1,hv1,_⟩:=named j _ k1;rw[zga k1,zfv oM]at he;rw[hκ _ oM oM]at hv1;cases hv1
  ·have k2:=Xb (show j'<ks.length by omega);obtain⟨v1,hv1,_⟩:=named j' _ k2;rw[zga k2,zfv oM]at he;rw[hκ _ oM oM]at hv1;cases hv1
  rw[zfv oM,zfv oM]at he;omega
 have hpw:(zbs ks κ M'++R).Pairwise λa b=>a.1≠b.1:=by
  rw[List.pairwise_append];refine⟨?_,by subst hR;exact zbW hm.keys,λx hx y hy e=>keyNew x.1 x.2 hx (e ▸ List.mem_map_of_mem hy)⟩
  have:∀{l:LT},l.Pairwise (λa b=>a.1≠b.1)->(∀j m,(j,m)∈l->j<n+nn)->(zbs ks κ l).Pairwise λa b=>a.1≠b.1:=by
   intro l
   induction l with
   |nil=>intro _ _;exact List.Pairwise.nil
   |cons x xs ih=>
    intro hp hlt;obtain⟨j,m⟩:=x;rw[X9]at hp;refine X9.2 ⟨λy hy e=>?_,ih hp.2 λj m h=>hlt j m (.tail _ h)⟩;obtain⟨k,m'⟩:=y;obtain⟨j',m0,g1,g2,_⟩:=um hy;have e:rn ks κ j=k:=e;rw[g2]at e;exact hp.1 (j',m0) g1 (rninj j j' (hlt j m (.head _)) (hlt j' m0 (.tail _ g1)) e)
  exact this hm'.keys λj m h=>(jL hM' j m h).1
 have hmem:zL Keep (zbs ks κ M'++R) ρ2 w':=by
  refine⟨λk m hk=>?_,hpw,λk m k' m' v1 v2 b h1 h2 hne g1 g2 g3 g4=>?_,λb hb=>?_,λb hb=>Xw (hm.kp b hb) hs.size,λg v h=>⟨λho=>((ownNew g).1 ho).elim (hm'.gl g v h).1 λh'=>(hm.gl g v h).1 (ownR g h'),hm'.glc h⟩⟩
  ·rcases Xs.1 hk with hk|hk
   ·obtain⟨j,m0,h1,rfl,rfl⟩:=um hk;exact zAp hset hup (jL hM' j m0 h1).1 (jL hM' j m0 h1).2 (hm'.rel j m0 h1)
   obtain⟨v1,h1,h2⟩:=nameR k m hk;refine jH.keep hst (h2.trans h1.symm) (λv2 b g1 g2=>?_) (hm.rel k m (memR _ hk).1);have ho:Own R ρ b:=⟨k,m,v2,hk,g1,g2⟩;exact hs.block b (hm.old b (ownR b ho)).1 λhc=>apartR b ((hKp b).2 (.inr ho)) hc
  ·rcases Xs.1 h1 with h1|h1 <;> rcases Xs.1 h2 with h2|h2
   ·obtain⟨j,m0,q1,rfl,_⟩:=um h1;obtain⟨j',m0',q2,rfl,_⟩:=um h2;exact hm'.apart j m0 j' m0' v1 v2 b q1 q2 (λe=>hne (by rw[e])) (back j v1 (jL hM' j m0 q1).1 g1) (back j' v2 (jL hM' j' m0' q2).1 g2) g3 g4
   ·obtain⟨j,m0,q1,rfl,_⟩:=um h1;obtain⟨v3,e1,e2⟩:=nameR k' m' h2;rw[g2]at e2;cases e2
    exact(hm'.old b ⟨j,m0,v1,q1,back j v1 (jL hM' j m0 q1).1 g1,g3⟩).2 ((hKp b).2 (.inr ⟨k',m',v2,h2,e1,g4⟩))
   ·obtain⟨j,m0,q1,rfl,_⟩:=um h2;obtain⟨v3,e1,e2⟩:=nameR k m h1;rw[g1]at e2;cases e2
    exact(hm'.old b ⟨j,m0,v2,q1,back j v2 (jL hM' j m0 q1).1 g2,g4⟩).2 ((hKp b).2 (.inr ⟨k,m,v1,h1,e1,g3⟩))
   obtain⟨v3,e1,e2⟩:=nameR k m h1;rw[g1]at e2;cases e2
   obtain⟨v4,e3,e4⟩:=nameR k' m' h2;rw[g2]at e4;cases e4
   exact hm.apart k m k' m' v1 v2 b (memR _ h1).1 (memR _ h2).1 hne e1 e3 g3 g4
  rcases(ownNew b).1 hb with h|h
  ·exact⟨(hm'.old b h).1,λhkb=>(hm'.old b h).2 ((hKp b).2 (.inl hkb))⟩
  exact⟨Xw (hm.old b (ownR b h)).1 hs.size,(hm.old b (ownR b h)).2⟩
 have e0:zc6 M κ (.give ks (zbs ks κ M') nn)=zbs ks κ M'++R:=by subst hR;rfl
 refine⟨ρ2,?_,?_,?_,λk hk=>?_⟩
 ·rw[e0];exact hst
 ·rw[e0];exact hmem
 ·rw[e0];exact zrS hset hup r hr hgr
 have hk:k<κ∨κ+nn<=k:=hk;rw[hρ2,Xc oM]
def zL.same{Keep:LI}{M:LT}{ρ:zh}{w w':World}(hm:zL Keep M ρ w)(hos:w'.os=w.os)(htape:w'.tape=w.tape)(hout:kO w w')(hsize:w.heap.size<=w'.heap.size)(hblock:∀b,b<w.heap.size->w'.heap[b]?=w.heap[b]?):Stp (Own M ρ) (Own M ρ) ρ ρ w w'/\zL Keep M ρ w':=by
 have hs:Stp (Own M ρ) (Own M ρ) ρ ρ w w':=⟨hos,htape,hout,hsize,λb hb _=>hblock b hb,λb hb=>.inl hb,λ_ _ h=>h⟩
 exact⟨hs,λk m h=>(hm.rel k m h).keep hs rfl (λv b h1 h2=>hblock b (hm.old b ⟨k,m,v,h,h1,h2⟩).1),hm.keys,hm.apart,
  λb hb=>⟨Xw (hm.old b hb).1 hsize,(hm.old b hb).2⟩,λb hb=>Xw (hm.kp b hb) hsize,hm.glS hs⟩
variable{Γ:LS}{x:Operand}{K:LD}
def zrU{e:TypeId}{s:SV}(h:boxV Γ e s κ K):∃r md,K r md/\yR P (.box e x) [s] lm κ r md:=by
 unfold boxV at h;replace h:=zj h;obtain⟨hc,h⟩:=h;have old:K (.loc κ 0) (.push (.box e (kN s)))->∃r md,K r md/\yR P (.box e x) [s] lm κ r md:=λh=>zuR (by unfold zQ;rw[hc];exact h)
 split at h
 ·split at h
  ·split at h
   ·rename_i hf
    rcases h with h|h
    ·exact old h
    refine⟨_,_,h,λo ho Keep M ρ a w _ hm hκ hκM hgs=>?_⟩;obtain⟨h1,h2⟩:=vH hc (Gs.head hgs)
    have hrun:(execOp a.eval o).run P w=.ok (.value (.pointer (some ⟨w.heap.size,0,none⟩))) (w.alloc (.cells (a.eval x).cells e)):=by
     simp[execOp,ho,Instr.box,newVar,newRow]
    refine qJ.value hrun ?_;obtain⟨hs,hm'⟩:=hm.same (w':=w.alloc (.cells (a.eval x).cells e)) rfl rfl (.cells _ _ _) sI (λb hb=>heap_alloc_old w _ b hb);refine⟨ρ,hs,hm',.d _ _ ?_,λ_ _=>rfl⟩;have hnew:=heap_alloc_new w (.cells (a.eval x).cells e);have hn:∀b,b<w.heap.size->True:=λ_ _=>trivial
    refine .dptr _ w.heap.size 0 (λj=>((a.eval x).cells.toList[j]?).getD undef) sI (λhb=>?_) (λj hj=>?_) (λj s' hs'=>?_)
    ·rcases hb with hb|hb
     ·have:=hm.kp _ hb;omega
     have:=(hm.old _ hb).1;omega
    ·have hj':j<(a.eval x).cells.toList.length:=by rw[h1.1];exact hj
     have hj2:j<(a.eval x).cells.size:=by simpa using hj'
     refine⟨?_,?_⟩
     ·show(w.alloc (.cells (a.eval x).cells e)).cell? ⟨w.heap.size,0+j,none⟩=_;rw[Kc];simp only[World.cell?,hnew];simp[hj2]
     rw[Xb hj',Qq];exact h2 _ (KI hj')
    have hj:j<(kN s).length:=(Xd.1 hs').1;have hj':j<(a.eval x).cells.toList.length:=by rw[h1.1];exact hj
    rw[Xb hj',Qq];exact(uP (yM hf j s' hs') (h1.2 j s' _ hs' (Xb hj'))).stp hs
   exact old h
  exact old h
 exact old h
def znQ(hT:TOK P Γ){t:TypeId}{lo hi mx:Option Operand}{svs:LR}(h:znD Γ t lo hi mx svs lm κ K):∃r md,K r md/\yR P (.slice t x lo hi mx) svs lm κ r md:=by
 unfold znD at h
 split at h
 ·rename_i cs;unfold zlW at h;replace h:=zj h;obtain⟨hn,h⟩:=h;obtain⟨n1,hn⟩:=kj hn;obtain⟨n2,n3⟩:=kj hn;have lo0:lo=none:=by cases lo with|none=>rfl|some _=>cases n1
  have hi0:hi=none:=by cases hi with|none=>rfl|some _=>cases n2
  have mx0:mx=none:=by cases mx with|none=>rfl|some _=>cases n3
  subst lo0;subst hi0;subst mx0;replace h:=zD h;obtain⟨i,hi',h⟩:=h;have hk:=(hT t i hi').kind
  split at h
  ·rename_i n e hkind;rw[hkind]at hk;have hk:P.underlying t=some (.array n e):=hk;have helem:P.elem t=e:=by simp[Program.elem,hk]
   have hlen:P.arrayLen t=n:=by simp[Program.arrayLen,hk]
   have hk':P.underlying t=some (.array (P.arrayLen t) (P.elem t)):=by rw[helem,hlen];exact hk
   replace h:=zD h;obtain⟨j,hj,h⟩:=h;have hsz:=(hT e j hj).size;obtain⟨α,enc,xs,hch,h⟩:=h;obtain⟨e1,e2,e3⟩:=h.ob;refine⟨_,_,h.go,.pure λo ho S Pm ρ a w hgs=>?_⟩;obtain⟨b,o',c,hx,hb,hS,hc,hd⟩:=(Gs.head hgs).dptr_inv
   have hrun:(execOp a.eval o).run P w=.ok (.value (.slice (some ⟨b,o',none⟩) xs.length n)) w:=by
    simp[execOp,ho,hx,run_sliceAt_array_all (ht:=hk'),slicedAt,hsz,helem,hlen,e1];intro _;simp[Addr.add]
   refine⟨_,hrun,.d _ _ ?_⟩;have hl:=zei e3;refine .sl enc xs j.sz b o' n (λp q=>c (p*j.sz+q)) hb hS oM oM e3 (λp q hp hq=>?_) (λp q x s hx hs=>?_)
   ·have hlt:p*j.sz+q<cs.length:=by
     rw[←hch,hl];have:=Xv j.sz (X6 hp);rw[X4]at this;omega
    have:=hc _ hlt
    rwa [KB]
   have hq:q<j.sz:=by
    have:=(Xd.1 hs).1;rw[e3 x (Xf hx)]at this;exact this
   have:=zeh e3 p q x hx hq;rw[hch]at this;exact hd _ s (this.trans hs)
  exact h.elim
 exact zph hT h
end
end Go.Gs
