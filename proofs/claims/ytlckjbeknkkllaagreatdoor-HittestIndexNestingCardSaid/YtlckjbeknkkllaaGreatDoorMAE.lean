/- A call to which several blocks of one's own are handed over. -/
import Derived.Test.YtlckjbeknkkllaaGreatDoorMAD
set_option maxRecDepth 100000
set_option maxHeartbeats 8000000
set_option linter.all false
namespace Go.Gs
def je.named{S Pm:LG}{ρ:ze}{w:World}{k:Nat}{m:Mem}(h:je S Pm ρ w k m):∃v,ρ k=some v:=by
 cases m with
 |box T cs=>obtain⟨b,vs,h1,_⟩:=h;exact⟨_,h1⟩
 |arr T enc sz xs=>obtain⟨v,cells,h1,_⟩:=h;exact⟨_,h1⟩
 |garr T sz xs=>obtain⟨v,cells,h1,_⟩:=h;exact⟨_,h1⟩
 |map es=>obtain⟨r,ents,clock,h1,_⟩:=h;exact⟨_,h1⟩
section
variable{S S' Pm Pm':LG}{ρ ρ':ze}{w:World}{ks:LB}{κ n:Nat}
def zfs(hP:∀b,Pm' b->Pm b)(hρ:∀k v,k<n->ρ (rn ks κ k)=some v->ρ' k=some v):∀(s:SV) {v:Value},y8 n s=true->G S Pm ρ w (uU ks κ s) v->G S Pm' ρ' w s v:=by
 intro s
 induction s using SV.rec (motive_2:=λcs=>∀{vs:LZ},y8.lows n cs=true->Gs S Pm ρ w (uU.rens ks κ cs) vs->Gs S Pm' ρ' w cs vs) with
 |val v=>intro u _ hg;exact .d _ _ (hg.val_inv ▸ .val _)
 |pr p i=>intro u _ hg;rw[hg.pr_inv];exact .d _ _ (.pr p i)
 |sl enc xs=>intro u _ hg;exact .d _ _ hg.sl_inv
 |nils=>intro u _ hg;obtain⟨a,rfl⟩:=hg.nils_inv;exact .d _ _ (.nils a)
 |anyb=>intro u _ hg;obtain⟨b,rfl⟩:=hg.anyb_inv;exact .d _ _ (.anyb b)
 |full enc xs=>intro u _ hg;obtain⟨a,rfl,hd⟩:=hg.full_inv;exact .d _ _ (.full enc xs a hd)
 |dptr cs _=>intro u _ hg;cases hg with|d _ _ h=>exact .d _ _ h
 |dfn f cs _=>intro u _ hg;cases hg with|d _ _ h=>exact .d _ _ h
 |bm f cs _=>intro u _ hg;cases hg with|d _ _ h=>exact .d _ _ h
 |op v=>intro u _ hg;cases hg with|d _ _ h=>exact .d _ _ h
 |junk=>intro u _ _;exact .d _ _ (.junk u)
 |ptr cs _=>
  intro u _ hg
  cases hg with
  |d _ _ h=>cases h
  |ptr _ b o c hb hPb hc h=>exact .ptr _ b o c hb (λhp=>hPb (hP b hp)) hc h
 |agg cs ih=>
  intro u h hg;obtain⟨vs,rfl,hvs⟩:=hg.agg_inv;have:=ih h hvs;exact .agg _ vs this.1 this.2
 |tup cs ih=>
  intro u h hg;obtain⟨vs,rfl,hvs⟩:=hg.tup_inv;have:=ih h hvs;exact .tup _ vs this.1 this.2
 |fn f cs ih=>
  intro u h hg;obtain⟨vs,rfl,hvs⟩:=hg.fn_inv;have:=ih h hvs;exact .fn _ _ vs this.1 this.2
 |ifc t s ih=>
  intro u h hg;obtain⟨v,rfl,hv⟩:=hg.ifc_inv;exact .ifc t _ v (ih h hv)
 |loc k off=>
  intro u h hg;obtain⟨b,g1,rfl⟩:=hg.loc_inv;exact .loc _ _ _ (hρ k _ (by simpa[y8] using h) g1)
 |own k=>
  intro u h hg;obtain⟨g1,g2⟩:=hg.own_inv;exact .own _ _ (hρ k _ (by simpa[y8] using h) g1) g2
 |eloc k sz i off=>
  intro u h hg;obtain⟨b,len,cap,g1,rfl⟩:=hg.eloc_inv;exact .eloc _ _ _ _ b len cap (hρ k _ (by simpa[y8] using h) g1)
 |win k sz lo m=>
  intro u h hg;obtain⟨b,len,cap,cap',g1,rfl,g2,g3⟩:=hg.win_inv;exact .win _ _ _ _ b len cap cap' (hρ k _ (by simpa[y8] using h) g1) g2 g3
 |nil=>
  rename_i vs _ hg;rw[Gs.nil_inv hg];exact .nil
 |cons c cs ih1 ih2=>
  rename_i vs h hg;simp only[y8.lows]at h
  split at h
  ·rename_i h1;obtain⟨v,vs',rfl,g1,g2⟩:=hg.cons_inv;exact .cons (ih1 h1 g1) (ih2 h g2)
  cases h
def zrd(hS:∀b,S b->S' b)(hρ:∀k v,k<n->ρ' k=some v->ρ (rn ks κ k)=some v):∀(s:SV) {v:Value},zba n s=true->G S' Pm' ρ' w s v->G S Pm ρ w (uU ks κ s) v:=by
 intro s
 induction s using SV.rec (motive_2:=λcs=>∀{vs:LZ},zba.outs n cs=true->Gs S' Pm' ρ' w cs vs->Gs S Pm ρ w (uU.rens ks κ cs) vs) with
 |val v=>intro u _ hg;exact .d _ _ (hg.val_inv ▸ .val _)
 |pr p i=>intro u _ hg;rw[hg.pr_inv];exact .d _ _ (.pr p i)
 |sl enc xs=>intro u _ hg;exact .d _ _ (hg.sl_inv.less hS)
 |nils=>intro u _ hg;obtain⟨a,rfl⟩:=hg.nils_inv;exact .d _ _ (.nils a)
 |anyb=>intro u _ hg;obtain⟨b,rfl⟩:=hg.anyb_inv;exact .d _ _ (.anyb b)
 |full enc xs=>intro u _ hg;obtain⟨a,rfl,hd⟩:=hg.full_inv;exact .d _ _ (.full enc xs a (hd.less hS))
 |dptr cs _=>intro u _ hg;cases hg with|d _ _ h=>exact .d _ _ (h.less hS)
 |dfn f cs _=>intro u _ hg;cases hg with|d _ _ h=>exact .d _ _ (h.less hS)
 |bm f cs _=>intro u _ hg;cases hg with|d _ _ h=>exact .d _ _ (h.less hS)
 |op v=>intro u _ hg;cases hg with|d _ _ h=>exact .d _ _ (h.less hS)
 |junk=>intro u _ _;exact .d _ _ (.junk u)
 |ptr cs _=>intro u h _;cases h
 |agg cs ih=>
  intro u h hg;obtain⟨vs,rfl,hvs⟩:=hg.agg_inv;have:=ih h hvs;exact .agg _ vs this.1 this.2
 |tup cs ih=>
  intro u h hg;obtain⟨vs,rfl,hvs⟩:=hg.tup_inv;have:=ih h hvs;exact .tup _ vs this.1 this.2
 |fn f cs ih=>
  intro u h hg;obtain⟨vs,rfl,hvs⟩:=hg.fn_inv;have:=ih h hvs;exact .fn _ _ vs this.1 this.2
 |ifc t s ih=>
  intro u h hg;obtain⟨v,rfl,hv⟩:=hg.ifc_inv;exact .ifc t _ v (ih h hv)
 |loc k off=>
  intro u h hg;obtain⟨b,g1,rfl⟩:=hg.loc_inv;exact .loc _ _ _ (hρ k _ (by simpa[zba] using h) g1)
 |own k=>
  intro u h hg;obtain⟨g1,g2⟩:=hg.own_inv;exact .own _ _ (hρ k _ (by simpa[zba] using h) g1) g2
 |eloc k sz i off=>
  intro u h hg;obtain⟨b,len,cap,g1,rfl⟩:=hg.eloc_inv;exact .eloc _ _ _ _ b len cap (hρ k _ (by simpa[zba] using h) g1)
 |win k sz lo m=>
  intro u h hg;obtain⟨b,len,cap,cap',g1,rfl,g2,g3⟩:=hg.win_inv;exact .win _ _ _ _ b len cap cap' (hρ k _ (by simpa[zba] using h) g1) g2 g3
 |nil=>
  rename_i vs _ hg;rw[Gs.nil_inv hg];exact .nil
 |cons c cs ih1 ih2=>
  rename_i vs h hg;simp only[zba.outs]at h
  split at h
  ·rename_i h1;obtain⟨v,vs',rfl,g1,g2⟩:=hg.cons_inv;exact .cons (ih1 h1 g1) (ih2 h g2)
  cases h
def zaa:∀cs:LQ,(uU.rens ks κ cs).length=cs.length
 |[]=>rfl
 |c::cs=>by simp only[uU.rens,Xq,zaa cs]
def zab:∀(cs:LQ) (j:Nat),(uU.rens ks κ cs)[j]?=(cs[j]?).map (uU ks κ)
 |[],j=>by simp[uU.rens]
 |c::cs,0=>by simp[uU.rens]
 |c::cs,j+1=>by simpa[uU.rens] using zab cs j
def zao:∀{cs:LQ},y8.lows n cs=true->∀(j:Nat) (s:SV),cs[j]?=some s->y8 n s=true
 |[],_,j,s,h=>by simp at h
 |c::cs,hl,j,s,h=>by
  simp only[y8.lows]at hl
  split at hl
  ·rename_i h1
   cases j with
   |zero=>simp at h;subst h;exact h1
   |succ j=>exact zao hl j s (by simpa using h)
  cases hl
def ziN:∀{cs:LQ},zba.outs n cs=true->∀(j:Nat) (s:SV),cs[j]?=some s->zba n s=true
 |[],_,j,s,h=>by simp at h
 |c::cs,hl,j,s,h=>by
  simp only[zba.outs]at hl
  split at hl
  ·rename_i h1
   cases j with
   |zero=>simp at h;subst h;exact h1
   |succ j=>exact ziN hl j s (by simpa using h)
  cases hl
def zlk(hP:∀b,Pm' b->Pm b)(hρ:∀k v,k<n->ρ (rn ks κ k)=some v->ρ' k=some v){j:Nat}(hj:j<n){m:Mem}(hl:zod n m)(h:je S Pm ρ w (rn ks κ j) (zgu ks κ m)):je S Pm' ρ' w j m:=by
 cases m with
 |box T cs=>
  obtain⟨b,vs,h1,h2,h3,h4,h5⟩:=h;refine⟨b,vs,hρ j _ hj h1,h2,h3.trans (zaa cs),h4,λi s v hs hv=>?_⟩;exact zfs hP hρ s (zao hl i s hs) (h5 i _ v (by rw[zab,hs];rfl) hv)
 |arr T enc sz xs=>
  obtain⟨v,cells,h1,h2,h3,h4,h5,h6⟩:=h;exact⟨v,cells,hρ j _ hj h1,h2,h3,h4,h5,h6⟩
 |garr T sz xs=>
  obtain⟨v,cells,h1,h2,h3,h4,h5,h6⟩:=h;refine⟨v,cells,hρ j _ hj h1,by simpa using h2,by simpa using h3,h4,λx hx=>?_,λi q x s hx hs=>?_⟩
  ·have:=h5 _ (JP hx)
   rwa [zaa]at this
  obtain⟨u,hu,hg⟩:=h6 i q (uU.rens ks κ x) (uU ks κ s) (by rw[XA,hx];rfl) (by rw[zab,hs];rfl);exact⟨u,hu,zfs hP hρ s (zao (hl x (Xf hx)) q s hs) hg⟩
 |map es=>
  obtain⟨r,ents,clock,h1,h2,h3,h4⟩:=h;exact⟨r,ents,clock,hρ j _ hj h1,h2,h3,h4⟩
def zAM(hS:∀b,S b->S' b)(hρ:∀k v,k<n->ρ' k=some v->ρ (rn ks κ k)=some v){j:Nat}(hj:j<n){m:Mem}(hl:zuE n m)(h:je S' Pm' ρ' w j m):je S Pm ρ w (rn ks κ j) (zgu ks κ m):=by
 cases m with
 |box T cs=>
  obtain⟨b,vs,h1,h2,h3,h4,h5⟩:=h;refine⟨b,vs,hρ j _ hj h1,h2,h3.trans (zaa cs).symm,h4,λi s v hs hv=>?_⟩;rw[zab]at hs
  cases hc:cs[i]? with
  |none=>simp[hc]at hs
  |some c=>
   simp[hc]at hs;subst hs;exact zrd hS hρ c (ziN hl i c hc) (h5 i c v hc hv)
 |arr T enc sz xs=>
  obtain⟨v,cells,h1,h2,h3,h4,h5,h6⟩:=h;refine⟨v,cells,hρ j _ hj h1,h2,h3,h4,h5,λi q x s hx hs=>?_⟩;obtain⟨u,hu,hd⟩:=h6 i q x s hx hs;exact⟨u,hu,hd.less hS⟩
 |garr T sz xs=>
  obtain⟨v,cells,h1,h2,h3,h4,h5,h6⟩:=h;refine⟨v,cells,hρ j _ hj h1,by simpa using h2,by simpa using h3,h4,λx hx=>?_,λi q x s hx hs=>?_⟩
  ·obtain⟨y,hy,rfl⟩:=XL.1 hx;rw[zaa];exact h5 y hy
  rw[XA]at hx
  cases hy:xs[i]? with
  |none=>simp[hy]at hx
  |some y=>
   simp[hy]at hx;subst hx;rw[zab]at hs
   cases hc:y[q]? with
   |none=>simp[hc]at hs
   |some c=>
    simp[hc]at hs;subst hs;obtain⟨u,hu,hg⟩:=h6 i q y c hy hc;exact⟨u,hu,zrd hS hρ c (ziN (hl y (Xf hy)) q c hc) hg⟩
 |map es=>
  obtain⟨r,ents,clock,h1,h2,h3,h4⟩:=h;refine⟨r,ents,clock,hρ j _ hj h1,h2,h3,λi n s hi=>?_⟩;obtain⟨e,g1,g2,g3⟩:=h4 i n s hi;exact⟨e,g1,g2,g3.less hS⟩
end
section
def zcS{x:Nat×Mem}:∀{ks:LB} {M:LT},x∈jv M ks->x∈M
 |[],_,h=>h
 |k::_,M,h=>kF x (zcS (M:=z5 M k) h)
def zbn:∀{ks:LB} {M:LT},M.Pairwise (λa b=>a.1≠b.1)->(jv M ks).Pairwise λa b=>a.1≠b.1
 |[],_,h=>h
 |k::ks,M,h=>zbn (ks:=ks) (M:=z5 M k) (k7 h)
def ziO{x:Nat×Mem}:∀{ks:LB} {M:LT},M.Pairwise (λa b=>a.1≠b.1)->x∈jv M ks->x.1∉ks
 |[],_,_,_=>by simp
 |k::r,M,hp,h=>by
  intro hk
  cases hk with
  |head=>exact yP hp x (zcS (M:=z5 M x.1) h) rfl
  |tail _ hk=>exact ziO (k7 hp) h hk
def zft{k:Nat}:∀{l:LB},k∈l->zkO k l=true
 |[],h=>(by cases h)
 |x::r,h=>by
  simp only[zkO]
  split
  ·rfl
  rename_i hb
  cases h with
  |head=>simp[K4]at hb
  |tail _ h=>exact zft h
def zeP:∀{l:LB},vI l=true->∀(i j k:Nat),l[i]?=some k->l[j]?=some k->i=j
 |[],_,i,j,k,h,_=>by simp at h
 |x::r,hn,i,j,k,hi,hj=>by
  simp only[vI]at hn
  split at hn
  ·cases hn
  rename_i hm
  have out:∀q:Nat,r[q]? ≠some x:=λq hq=>by
   have:=zft (Xf hq);rw[this]at hm;cases hm
  match i,j with
  |0,0=>rfl
  |0,j+1=>simp at hi hj;subst hi;exact absurd hj (out j)
  |i+1,0=>simp at hi hj;subst hj;exact absurd hi (out i)
  |i+1,j+1=>rw[zeP hn i j k (by simpa using hi) (by simpa using hj)]
def ziP{n:Nat}:∀{l:LT},zix n l=true->∀k m,(k,m)∈l->k<n
 |[],_,k,m,h=>(by cases h)
 |(q,y)::r,hb,k,m,h=>by
  simp only[zix]at hb;obtain⟨h1,h2⟩:=zZ hb
  cases h with
  |head=>simpa using h1
  |tail _ h=>exact ziP h2 k m h
def zoE{k:Nat}{m:Mem}:∀{l:LT},(k,m)∈l->zoe k l=true
 |[],h=>(by cases h)
 |(q,y)::r,h=>by
  simp only[zoe]
  split
  ·rfl
  rename_i hb
  cases h with
  |head=>simp[K4]at hb
  |tail _ h=>exact zoE h
def zhq:∀{l:LT},zeF l=true->l.Pairwise λa b=>a.1≠b.1
 |[],_=>List.Pairwise.nil
 |(q,y)::r,h=>by
  simp only[zeF]at h
  split at h
  ·cases h
  rename_i hm;refine XY.2 ⟨λz hz e=>?_,zhq h⟩;obtain⟨k,m⟩:=z;have e:q=k:=e;subst e;rw[zoE hz]at hm;cases hm
def ziQ:∀{n:Nat} {K:LG},zof n K->K n
 |0,_,h=>h
 |n+1,_,h=>ziQ (n:=n) h
def zfu:∀{l:LQ} {K:LQ->Prop},zfi l K->K l
 |[],_,h=>h
 |c::l,K,h=>zfu (l:=l) (K:=λr=>K (c::r)) (qn (s:=c) (K:=λc=>zfi l λr=>K (c::r)) h)
def zm4{m:Mem}{K:Mem->Prop}(h:zh6 m K):K m:=by
 cases m with
 |box T cs=>exact zfu (K:=λcs=>K (.box T cs)) h
 |arr T enc sz xs=>exact h
 |garr T sz xs=>exact h
 |map es=>exact h
def zfv:∀{l:LT} {K:LT->Prop},zfj l K->K l
 |[],_,h=>h
 |(k,m)::l,K,h=>zfv (l:=l) (K:=λr=>K ((k,m)::r)) (zm4 (m:=m) (K:=λm=>zfj l λr=>K ((k,m)::r)) (ziQ (n:=k) (K:=λk=>zh6 m λm=>zfj l λr=>K ((k,m)::r)) h))
def zaY{lm:LH}{ks0:LB}{κ:Nat}{Mc:LT}:∀{ks:LB} {i:Nat},zfh lm ks0 κ Mc i ks->∀(q k:Nat),ks[q]?=some k->∃m,zH Mc (i+q)=some m/\lm k=some (zgu ks0 κ m)/\zod ks0.length m
 |[],i,_,q,k,h=>by simp at h
 |x::r,i,hg,q,k,h=>by
  cases q with
  |zero=>simp at h;subst h;exact hg.1
  |succ q=>
   have:=zaY hg.2 q k (by simpa using h)
   rwa [show i+1+q=i+(q+1) by omega]at this
def jf{n:Nat}:∀{l:LT},ziw n l->∀j m,(j,m)∈l->j<n/\zuE n m
 |[],_,j,m,h=>(by cases h)
 |(q,y)::r,hl,j,m,h=>by
  cases h with
  |head=>exact⟨by simpa using hl.1.1,hl.1.2⟩
  |tail _ h=>exact jf hl.2 j m h
def yz{ks:LB}{κ:Nat}:∀{l:LT} {k:Nat} {m:Mem},(k,m)∈yk ks κ l->∃j m0,(j,m0)∈l/\k=rn ks κ j/\m=zgu ks κ m0
 |[],_,_,h=>(by cases h)
 |(q,y)::r,k,m,h=>by
  cases h with
  |head=>exact⟨q,y,.head _,rfl,rfl⟩
  |tail _ h=>
   obtain⟨j,m0,h1,h2⟩:=yz h;exact⟨j,m0,.tail _ h1,h2⟩
def zbo{ks:LB}{κ:Nat}:∀{l:LT} {j:Nat} {m:Mem},(j,m)∈l->(rn ks κ j,zgu ks κ m)∈yk ks κ l
 |(q,y)::r,j,m,h=>by
  cases h with
  |head=>exact .head _
  |tail _ h=>exact .tail _ (zbo h)
variable{ks:LB}{κ:Nat}{j:Nat}
def uJ{k:Nat}(h:ks[j]?=some k):rn ks κ j=k:=by unfold rn;rw[h]
def zbS(h:ks.length<=j):rn ks κ j=κ+(j-ks.length):=by unfold rn;rw[XF h]
variable{P:Program}{f:FuncId}{za:LQ}{lm:LH}{Keep:LG}{M:LT}{ρ:ze}{vs:LZ}
def zre{nn:Nat}{args':LQ}{Mc M':LT}{r:SV}(hcall:kK P f args' Mc r M')(ha:LEs za (uU.rens ks κ args'))(hl:y8.lows ks.length args'=true)(hn:vI ks=true)(hk:jN (Nat.beq Mc.length ks.length) (jN (zix ks.length Mc) (zeF Mc))=true)(hM:zfh lm ks κ Mc 0 ks)(hr:zba (ks.length+nn) r=true)(hM':ziw (ks.length+nn) M'){w:World}(hlm:∀k m,lm k=some m->zH M k=some m)(hm:zB Keep M ρ w)(hκ:∀k,κ<=k->k<κ+nn->ρ k=none)(hg:Gs (λb=>Keep b∨Own M ρ b) (Own M ρ) ρ w za vs):
  Calls P f vs.toArray w λe w'=>∃v,e=.returned v/\kG Keep M ρ w κ (uU ks κ r) (.give ks (yk ks κ M') nn) v w':=by
 obtain⟨hlen,hk⟩:=zZ hk;obtain⟨hkb,hkd⟩:=zZ hk;have hkd:=zhq hkd;have hlen:=Xh hlen;obtain⟨n,hnl⟩:∃n,n=ks.length:=⟨_,rfl⟩;rw[←hnl]at hlen hkb hl hr hM'
 -- the callee's names
 obtain⟨ρc,hρc⟩:∃ρc:ze,∀j,ρc j=(match ks[j]? with|some k=>ρ k|none=>none):=⟨_,λ_=>rfl⟩
 have given:∀j m,(j,m)∈Mc->∃k,ks[j]?=some k/\zH Mc j=some m/\lm k=some (zgu ks κ m)/\zod n m:=λj m hj=>by
  have hjn:=ziP hkb j m hj;have hkj:=Xa (show j<ks.length by omega);obtain⟨m',h1,h2,h3⟩:=zaY hM j _ hkj;rw[X9]at h1
  have:m'=m:=by
   have h4:=zn h1
   by_cases e:(j,m')=(j,m)
   ·simpa using e
   exfalso
   have:=hkd;obtain⟨a,ha'⟩:=JF h4;obtain⟨b,hb'⟩:=JF hj;have hne:a≠b:=λe'=>by subst e';rw[ha']at hb';cases hb';exact e rfl
   rw[Q5]at this;obtain⟨al,ae⟩:=Xd.1 ha';obtain⟨bl,be⟩:=Xd.1 hb'
   rcases Nat.lt_or_gt_of_ne hne with h|h
   ·have:=this a b al bl h;rw[ae,be]at this;exact this rfl
   have:=this b a bl al h;rw[ae,be]at this;exact this rfl
  subst this;exact⟨_,hkj,h1,h2,by rw[hnl];exact h3⟩
 have hdown:∀k v,k<n->ρ (rn ks κ k)=some v->ρc k=some v:=λk v hkn hv=>by
  have hkj:=Xa (show k<ks.length by omega);rw[uJ hkj]at hv;rw[hρc,hkj];exact hv
 have ownc:∀b,Own Mc ρc b->∃j k m v,(j,m)∈Mc/\ks[j]?=some k/\(k,zgu ks κ m)∈M/\ρ k=some v/\kI v=some b:=by
  rintro b ⟨j,m,v,h1,h2,h3⟩
  obtain⟨k,hkj,_,hlk,_⟩:=given j m h1;rw[hρc,hkj]at h2;exact⟨j,k,m,v,h1,hkj,zn (hlm k _ hlk),h2,h3⟩
 have ownsub:∀b,Own Mc ρc b->Own M ρ b:=λb hb=>by
  obtain⟨j,k,m,v,_,_,h1,h2,h3⟩:=ownc b hb;exact⟨k,_,v,h1,h2,h3⟩
 obtain⟨R,hR⟩:∃R,R=jv M ks:=⟨_,rfl⟩;have memR:∀x,x∈R->x∈M/\x.1∉ks:=λx hx=>by subst hR;exact⟨zcS hx,ziO hm.keys hx⟩
 obtain⟨Kp,hKp⟩:∃Kp:LG,∀b,Kp b↔(Keep b∨Own R ρ b):=⟨_,λ_=>Qd⟩;have ownR:∀b,Own R ρ b->Own M ρ b:=λb ⟨k,m,v,h1,h2,h3⟩=>⟨k,m,v,(memR _ h1).1,h2,h3⟩
 have split:∀b,Keep b∨Own M ρ b->Kp b∨Own Mc ρc b:=by
  rintro b (hb|⟨k,m,v,h1,h2,h3⟩)
  ·exact .inl ((hKp b).2 (.inl hb))
  by_cases hks:k∈ks
  ·obtain⟨j,hj⟩:=JF hks;obtain⟨m',g1,g2,_⟩:=zaY hM j k hj;rw[X9]at g1;exact .inr ⟨j,m',v,zn g1,by rw[hρc,hj];exact h2,h3⟩
  refine .inl ((hKp b).2 (.inr ⟨k,m,v,?_,h2,h3⟩));subst hR
  have hin:∀{ks:LB} {M:LT},(k,m)∈M->k∉ks->(k,m)∈jv M ks:=by
   intro ks
   induction ks with
   |nil=>intro M h _;exact h
   |cons q r ih=>
    intro M h hq;refine ih (M:=z5 M q) ?_ (λe=>hq (.tail _ e));have hne:k≠q:=λe=>hq (e ▸ .head _)
    clear ih hq
    induction M with
    |nil=>cases h
    |cons x xs ihx=>
     obtain⟨a,y⟩:=x;simp only[z5]
     split
     ·rename_i hb;have:=Xh hb;subst this
      cases h with
      |head=>exact absurd rfl hne
      |tail _ h=>exact h
     cases h with
     |head=>exact .head _
     |tail _ h=>exact .tail _ (ihx h)
  exact hin h1 hks
 have unsplit:∀b,Kp b∨Own Mc ρc b->Keep b∨Own M ρ b:=λb hb=>hb.elim (λh=>((hKp b).1 h).imp id (ownR b)) λh=>.inr (ownsub b h)
 have apartR:∀b,Kp b->¬Own Mc ρc b:=λb hb ho=>by
  obtain⟨j,k,m,v,_,hkj,h1,h2,h3⟩:=ownc b ho
  rcases(hKp b).1 hb with hb|⟨k',m',v',g1,g2,g3⟩
  ·exact(hm.old b ⟨k,_,v,h1,h2,h3⟩).2 hb
  have hne:k≠k':=λe=>(memR _ g1).2 (e ▸ Xf hkj)
  exact hm.apart k _ k' m' v v' b h1 (memR _ g1).1 hne h2 g2 h3 g3
 have hkp:∀b,Kp b->b<w.heap.size:=λb hb=>((hKp b).1 hb).elim (hm.kp b) λh=>(hm.old b (ownR b h)).1
 have hmc:zB Kp Mc ρc w:=by
  refine⟨λj m hj=>?_,hkd,λj m j' m' v v' b h1 h2 hne g1 g2 g3 g4=>?_,λb hb=>⟨(hm.old b (ownsub b hb)).1,λh=>apartR b h hb⟩,hkp,λg v h=>⟨λho=>(hm.gl g v h).1 (ownsub g ho),hm.glc h⟩⟩
  ·obtain⟨k,hkj,_,hlk,hlow⟩:=given j m hj;have hmem:=hm.rel k _ (zn (hlm k _ hlk))
   have hmem2:je (λb=>Kp b∨Own Mc ρc b) (Own M ρ) ρ w (rn ks κ j) (zgu ks κ m):=by
    rw[uJ hkj];have hS:(λb=>Kp b∨Own Mc ρc b)=λb=>Keep b∨Own M ρ b:=funext λb=>propext ⟨unsplit b,split b⟩
    rw[hS];exact hmem
   exact zlk ownsub hdown (ziP hkb j m hj) hlow hmem2
  obtain⟨k,hkj,_,hlk,_⟩:=given j m h1;obtain⟨k',hkj',_,hlk',_⟩:=given j' m' h2;rw[hρc,hkj]at g1;rw[hρc,hkj']at g2;exact hm.apart k _ k' _ v v' b (zn (hlm k _ hlk)) (zn (hlm k' _ hlk')) (λe=>hne (zeP hn j j' k hkj (e ▸ hkj'))) g1 g2 g3 g4
 have hargs:Gs (λb=>Kp b∨Own Mc ρc b) (Own Mc ρc) ρc w args' vs:=by
  have hS:(λb=>Kp b∨Own Mc ρc b)=λb=>Keep b∨Own M ρ b:=funext λb=>propext ⟨unsplit b,split b⟩
  rw[hS]
  have h1:Gs (λb=>Keep b∨Own M ρ b) (Own M ρ) ρ w (uU.rens ks κ args') vs:=by
   clear hl;generalize uU.rens ks κ args'=bs at ha
   induction ha generalizing vs with
   |nil=>exact hg
   |cons h t ih=>
    obtain⟨v,vs',rfl,g1,g2⟩:=hg.cons_inv;exact .cons (h _ _ _ _ _ g1) (ih g2)
  refine⟨h1.1.trans (zaa args'),λj s v hs hv=>?_⟩;exact zfs ownsub hdown s (zao hl j s hs) (h1.2 j _ v (by rw[zab,hs];rfl) hv)
 refine(hcall.2 Kp ρc w vs hkp hmc (λk hk=>?_) hargs).mono ?_
 ·rw[hρc,XF oM]
 rintro e w' ⟨v,ρ',rfl,hs,hm',hgr⟩
 refine⟨v,rfl,?_⟩
 -- the caller's names
 obtain⟨ρ2,hρ2⟩:∃ρ2:ze,∀k,ρ2 k=if κ<=k/\k<κ+nn then ρ' (n+(k-κ)) else ρ k:=⟨_,λ_=>rfl⟩
 have named:∀j k,ks[j]?=some k->∃v,ρ k=some v/\ρ' j=some v:=λj k hj=>by
  obtain⟨m',g1,g2,_⟩:=zaY hM j k hj;obtain⟨v,hv⟩:=(hm.rel k _ (zn (hlm k _ g2))).named;exact⟨v,hv,hs.rho j v (by rw[hρc,hj];exact hv)⟩
 have hup:∀j v,j<n+nn->ρ' j=some v->ρ2 (rn ks κ j)=some v:=λj v hj hv=>by
  by_cases hjn:j<n
  ·have hkj:=Xa (show j<ks.length by omega);obtain⟨v1,h1,h2⟩:=named j _ hkj;rw[hv]at h2;cases h2
   rw[uJ hkj,hρ2,Xb,h1]
   rintro⟨h3,h4⟩
   rw[hκ _ h3 h4]at h1;cases h1
  rw[zbS oM,hρ2,Xe oM];rw[←hnl,show n+(κ+(j-n)-κ)=j by omega];exact hv
 have hrho:∀k v,ρ k=some v->ρ2 k=some v:=λk v hv=>by
  rw[hρ2,Xb,hv]
  rintro⟨h3,h4⟩
  rw[hκ _ h3 h4]at hv;cases hv
 have back:∀j v,j<n+nn->ρ2 (rn ks κ j)=some v->ρ' j=some v:=λj v hj hv=>by
  by_cases hjn:j<n
  ·have hkj:=Xa (show j<ks.length by omega);obtain⟨v1,h1,h2⟩:=named j _ hkj;have:=hrho _ _ h1;rw[uJ hkj,this]at hv;cases hv
   exact h2
  rw[zbS oM,hρ2,Xe oM,←hnl,show n+(κ+(j-n)-κ)=j by omega]at hv;exact hv
 have nameR:∀k m,(k,m)∈R->∃v,ρ k=some v/\ρ2 k=some v:=λk m hk=>by
  obtain⟨v,hv⟩:=(hm.rel k m (memR _ hk).1).named;exact⟨v,hv,hrho k v hv⟩
 have ownNew:∀b,Own (yk ks κ M'++R) ρ2 b↔(Own M' ρ' b∨Own R ρ b):=λb=>by
  constructor
  ·rintro⟨k,m,v1,h1,h2,h3⟩
   rcases Xr.1 h1 with h1|h1
   ·obtain⟨j,m0,g1,rfl,_⟩:=yz h1;exact .inl ⟨j,m0,v1,g1,back j v1 (jf hM' j m0 g1).1 h2,h3⟩
   obtain⟨v2,g1,g2⟩:=nameR k m h1;rw[h2]at g2;cases g2
   exact .inr ⟨k,m,v1,h1,g1,h3⟩
  rintro(⟨j,m,v1,h1,h2,h3⟩|⟨k,m,v1,h1,h2,h3⟩)
  ·exact⟨_,_,v1,KM _ (zbo h1),hup j v1 (jf hM' j m h1).1 h2,h3⟩
  exact⟨k,m,v1,KF _ h1,hrho k v1 h2,h3⟩
 have hset:∀b,Keep b∨Own (yk ks κ M'++R) ρ2 b->Kp b∨Own M' ρ' b:=λb hb=>by
  rcases hb with hb|hb
  ·exact .inl ((hKp b).2 (.inl hb))
  rcases(ownNew b).1 hb with h|h
  ·exact .inr h
  exact .inl ((hKp b).2 (.inr h))
 have hst:Stp (Own M ρ) (Own (yk ks κ M'++R) ρ2) ρ ρ2 w w':=by
  refine⟨hs.os,hs.tape,hs.output,hs.size,λb hb hnb=>hs.block b hb λho=>hnb (ownsub b ho),λb hb=>?_,hrho⟩
  rcases(ownNew b).1 hb with h|h
  ·exact(hs.own b h).imp (ownsub b) id
  exact .inl (ownR b h)
 have keyNew:∀k m,(k,m)∈yk ks κ M'->k∉(R.map (·.1)):=λk m hk hin=>by
  obtain⟨j,m0,g1,rfl,_⟩:=yz hk;obtain⟨⟨k2,m2⟩,h1,h2⟩:=XL.1 hin;have h2:k2=rn ks κ j:=h2
  by_cases hjn:j<n
  ·have hkj:=Xa (show j<ks.length by omega);rw[uJ hkj]at h2;exact(memR _ h1).2 (h2 ▸ Xf hkj)
  have:=(jf hM' j m0 g1).1;rw[zbS oM]at h2;obtain⟨v1,hv1,_⟩:=nameR k2 m2 h1;rw[hκ k2 oM oM]at hv1;cases hv1
 have rninj:∀j j',j<n+nn->j'<n+nn->rn ks κ j=rn ks κ j'->j=j':=λj j' hj hj' he=>by
  by_cases h1:j<n <;> by_cases h2:j'<n
  ·have k1:=Xa (show j<ks.length by omega);have k2:=Xa (show j'<ks.length by omega);rw[uJ k1,uJ k2]at he;exact zeP hn j j' _ k1 (by rw[k2,he])
  ·have k1:=Xa (show j<ks.length by omega);obtain⟨v1,hv1,_⟩:=named j _ k1;rw[uJ k1,zbS oM]at he;rw[hκ _ oM oM]at hv1;cases hv1
  ·have k2:=Xa (show j'<ks.length by omega);obtain⟨v1,hv1,_⟩:=named j' _ k2;rw[uJ k2,zbS oM]at he;rw[hκ _ oM oM]at hv1;cases hv1
  rw[zbS oM,zbS oM]at he;omega
 have hpw:(yk ks κ M'++R).Pairwise λa b=>a.1≠b.1:=by
  rw[List.pairwise_append];refine⟨?_,by subst hR;exact zbn hm.keys,λx hx y hy e=>keyNew x.1 x.2 hx (e ▸ JP hy)⟩
  have:∀{l:LT},l.Pairwise (λa b=>a.1≠b.1)->(∀j m,(j,m)∈l->j<n+nn)->(yk ks κ l).Pairwise λa b=>a.1≠b.1:=by
   intro l
   induction l with
   |nil=>intro _ _;exact List.Pairwise.nil
   |cons x xs ih=>
    intro hp hlt;obtain⟨j,m⟩:=x;rw[XY]at hp;refine XY.2 ⟨λy hy e=>?_,ih hp.2 λj m h=>hlt j m (.tail _ h)⟩;obtain⟨k,m'⟩:=y;obtain⟨j',m0,g1,g2,_⟩:=yz hy;have e:rn ks κ j=k:=e;rw[g2]at e;exact hp.1 (j',m0) g1 (rninj j j' (hlt j m (.head _)) (hlt j' m0 (.tail _ g1)) e)
  exact this hm'.keys λj m h=>(jf hM' j m h).1
 have hmem:zB Keep (yk ks κ M'++R) ρ2 w':=by
  refine⟨λk m hk=>?_,hpw,λk m k' m' v1 v2 b h1 h2 hne g1 g2 g3 g4=>?_,λb hb=>?_,λb hb=>Xy (hm.kp b hb) hs.size,λg v h=>⟨λho=>((ownNew g).1 ho).elim (hm'.gl g v h).1 λh'=>(hm.gl g v h).1 (ownR g h'),hm'.glc h⟩⟩
  ·rcases Xr.1 hk with hk|hk
   ·obtain⟨j,m0,h1,rfl,rfl⟩:=yz hk;exact zAM hset hup (jf hM' j m0 h1).1 (jf hM' j m0 h1).2 (hm'.rel j m0 h1)
   obtain⟨v1,h1,h2⟩:=nameR k m hk;refine je.keep hst (h2.trans h1.symm) (λv2 b g1 g2=>?_) (hm.rel k m (memR _ hk).1);have ho:Own R ρ b:=⟨k,m,v2,hk,g1,g2⟩;exact hs.block b (hm.old b (ownR b ho)).1 λhc=>apartR b ((hKp b).2 (.inr ho)) hc
  ·rcases Xr.1 h1 with h1|h1 <;> rcases Xr.1 h2 with h2|h2
   ·obtain⟨j,m0,q1,rfl,_⟩:=yz h1;obtain⟨j',m0',q2,rfl,_⟩:=yz h2;exact hm'.apart j m0 j' m0' v1 v2 b q1 q2 (λe=>hne (by rw[e])) (back j v1 (jf hM' j m0 q1).1 g1) (back j' v2 (jf hM' j' m0' q2).1 g2) g3 g4
   ·obtain⟨j,m0,q1,rfl,_⟩:=yz h1;obtain⟨v3,e1,e2⟩:=nameR k' m' h2;rw[g2]at e2;cases e2
    exact(hm'.old b ⟨j,m0,v1,q1,back j v1 (jf hM' j m0 q1).1 g1,g3⟩).2 ((hKp b).2 (.inr ⟨k',m',v2,h2,e1,g4⟩))
   ·obtain⟨j,m0,q1,rfl,_⟩:=yz h2;obtain⟨v3,e1,e2⟩:=nameR k m h1;rw[g1]at e2;cases e2
    exact(hm'.old b ⟨j,m0,v2,q1,back j v2 (jf hM' j m0 q1).1 g2,g4⟩).2 ((hKp b).2 (.inr ⟨k,m,v1,h1,e1,g3⟩))
   obtain⟨v3,e1,e2⟩:=nameR k m h1;rw[g1]at e2;cases e2
   obtain⟨v4,e3,e4⟩:=nameR k' m' h2;rw[g2]at e4;cases e4
   exact hm.apart k m k' m' v1 v2 b (memR _ h1).1 (memR _ h2).1 hne e1 e3 g3 g4
  rcases(ownNew b).1 hb with h|h
  ·exact⟨(hm'.old b h).1,λhkb=>(hm'.old b h).2 ((hKp b).2 (.inl hkb))⟩
  exact⟨Xy (hm.old b (ownR b h)).1 hs.size,(hm.old b (ownR b h)).2⟩
 have e0:zcy M κ (.give ks (yk ks κ M') nn)=yk ks κ M'++R:=by subst hR;rfl
 refine⟨ρ2,?_,?_,?_,λk hk=>?_⟩
 ·rw[e0];exact hst
 ·rw[e0];exact hmem
 ·rw[e0];exact zrd hset hup r hr hgr
 have hk:k<κ∨κ+nn<=k:=hk;rw[hρ2,Xb oM]
def zB.same{Keep:LG}{M:LT}{ρ:ze}{w w':World}(hm:zB Keep M ρ w)(hos:w'.os=w.os)(htape:w'.tape=w.tape)(hout:kr w w')(hsize:w.heap.size<=w'.heap.size)(hblock:∀b,b<w.heap.size->w'.heap[b]?=w.heap[b]?):Stp (Own M ρ) (Own M ρ) ρ ρ w w'/\zB Keep M ρ w':=by
 have hs:Stp (Own M ρ) (Own M ρ) ρ ρ w w':=⟨hos,htape,hout,hsize,λb hb _=>hblock b hb,λb hb=>.inl hb,λ_ _ h=>h⟩
 exact⟨hs,λk m h=>(hm.rel k m h).keep hs rfl (λv b h1 h2=>hblock b (hm.old b ⟨k,m,v,h,h1,h2⟩).1),hm.keys,hm.apart,
  λb hb=>⟨Xy (hm.old b hb).1 hsize,(hm.old b hb).2⟩,λb hb=>Xy (hm.kp b hb) hsize,hm.glS hs⟩
variable{Γ:LS}{x:Operand}{K:SV->MD->Prop}
def zrf{e:TypeId}{s:SV}(h:boxV Γ e s κ K):∃r md,K r md/\ya P (.box e x) [s] lm κ r md:=by
 unfold boxV at h;replace h:=zf h;obtain⟨hc,h⟩:=h;have old:K (.loc κ 0) (.push (.box e (kq s)))->∃r md,K r md/\ya P (.box e x) [s] lm κ r md:=λh=>zuH (by unfold zJ;rw[hc];exact h)
 split at h
 ·split at h
  ·split at h
   ·rename_i hf
    rcases h with h|h
    ·exact old h
    refine⟨_,_,h,λo ho Keep M ρ a w _ hm hκ hκM hgs=>?_⟩;obtain⟨h1,h2⟩:=u1 hc (Gs.head hgs)
    have hrun:(execOp a.eval o).run P w=.ok (.value (.pointer (some ⟨w.heap.size,0,none⟩))) (w.alloc (.cells (a.eval x).cells e)):=by
     simp[execOp,ho,Instr.box,newVar,newRow]
    refine qk.value hrun ?_;obtain⟨hs,hm'⟩:=hm.same (w':=w.alloc (.cells (a.eval x).cells e)) rfl rfl (.cells _ _ _) sI (λb hb=>heap_alloc_old w _ b hb);refine⟨ρ,hs,hm',.d _ _ ?_,λ_ _=>rfl⟩;have hnew:=heap_alloc_new w (.cells (a.eval x).cells e);have hn:∀b,b<w.heap.size->True:=λ_ _=>trivial
    refine .dptr _ w.heap.size 0 (λj=>((a.eval x).cells.toList[j]?).getD undef) sI (λhb=>?_) (λj hj=>?_) (λj s' hs'=>?_)
    ·rcases hb with hb|hb
     ·have:=hm.kp _ hb;omega
     have:=(hm.old _ hb).1;omega
    ·have hj':j<(a.eval x).cells.toList.length:=by rw[h1.1];exact hj
     have hj2:j<(a.eval x).cells.size:=by simpa using hj'
     refine⟨?_,?_⟩
     ·show(w.alloc (.cells (a.eval x).cells e)).cell? ⟨w.heap.size,0+j,none⟩=_;rw[X9];simp only[World.cell?,hnew];simp[hj2]
     rw[Xa hj',KS];exact h2 _ (X5 hj')
    have hj:j<(kq s).length:=(Xd.1 hs').1;have hj':j<(a.eval x).cells.toList.length:=by rw[h1.1];exact hj
    rw[Xa hj',KS];exact(y9 (jY hf j s' hs') (h1.2 j s' _ hs' (Xa hj'))).stp hs
   exact old h
  exact old h
 exact old h
variable{svs:LQ}
def zm5(hT:TOK P Γ){t:TypeId}{lo hi mx:Option Operand}(h:zmR Γ t lo hi mx svs lm κ K):∃r md,K r md/\ya P (.slice t x lo hi mx) svs lm κ r md:=by
 unfold zmR at h
 split at h
 ·rename_i cs;unfold zk9 at h;replace h:=zf h;obtain⟨hn,h⟩:=h;obtain⟨n1,hn⟩:=zZ hn;obtain⟨n2,n3⟩:=zZ hn;have lo0:lo=none:=by cases lo with|none=>rfl|some _=>cases n1
  have hi0:hi=none:=by cases hi with|none=>rfl|some _=>cases n2
  have mx0:mx=none:=by cases mx with|none=>rfl|some _=>cases n3
  subst lo0;subst hi0;subst mx0;replace h:=zo h;obtain⟨i,hi',h⟩:=h;have hk:=(hT t i hi').kind
  split at h
  ·rename_i n e hkind;rw[hkind]at hk;have hk:P.underlying t=some (.array n e):=hk;have helem:P.elem t=e:=by simp[Program.elem,hk]
   have hlen:P.arrayLen t=n:=by simp[Program.arrayLen,hk]
   have hk':P.underlying t=some (.array (P.arrayLen t) (P.elem t)):=by rw[helem,hlen];exact hk
   replace h:=zo h;obtain⟨j,hj,h⟩:=h;have hsz:=(hT e j hj).size;obtain⟨α,enc,xs,hch,h⟩:=h;obtain⟨e1,e2,e3⟩:=h.ob;refine⟨_,_,h.go,.pure λo ho S Pm ρ a w hgs=>?_⟩;obtain⟨b,o',c,hx,hb,hS,hc,hd⟩:=(Gs.head hgs).dptr_inv
   have hrun:(execOp a.eval o).run P w=.ok (.value (.slice (some ⟨b,o',none⟩) xs.length n)) w:=by
    simp[execOp,ho,hx,run_sliceAt_array_all (ht:=hk'),slicedAt,hsz,helem,hlen,e1];intro _;simp[Addr.add]
   refine⟨_,hrun,.d _ _ ?_⟩;have hl:=zdH e3;refine .sl enc xs j.sz b o' n (λp q=>c (p*j.sz+q)) hb hS oM oM e3 (λp q hp hq=>?_) (λp q x s hx hs=>?_)
   ·have hlt:p*j.sz+q<cs.length:=by
     rw[←hch,hl];have:=Xs j.sz (X3 hp);rw[X4]at this;omega
    have:=hc _ hlt
    rwa [KE]
   have hq:q<j.sz:=by
    have:=(Xd.1 hs).1;rw[e3 x (Xf hx)]at this;exact this
   have:=zdG e3 p q x hx hq;rw[hch]at this;exact hd _ s (this.trans hs)
  exact h.elim
 exact zou hT h
def je.move{S S' Pm Pm':LG}{ρ ρ':ze}{w:World}{k k':Nat}{m:Mem}(hk:ρ' k'=ρ k)(hf:zfg m)(hd:∀s v,(jw s=true∨True)->D S w s v->D S' w s v∨False)(h:je S Pm ρ w k m):je S' Pm' ρ' w k' m:=by
 cases m with
 |box T cs=>
  obtain⟨b,vs,h1,h2,h3,h4,h5⟩:=h;exact⟨b,vs,hk.trans h1,h2,h3,h4,λj s v hs hv=>.d _ _ ((hd s v (.inr trivial) (y9 (jY hf j s hs) (h5 j s v hs hv))).resolve_right id)⟩
 |arr T enc sz xs=>
  obtain⟨v,cells,h1,h2,h3,h4,h5,h6⟩:=h;refine⟨v,cells,hk.trans h1,h2,h3,h4,h5,λi j x s hx hs=>?_⟩;obtain⟨u,hu,hd'⟩:=h6 i j x s hx hs;exact⟨u,hu,(hd s u (.inr trivial) hd').resolve_right id⟩
 |garr T sz xs=>exact hf.elim
 |map es=>
  obtain⟨r,ents,clock,h1,h2,h3,h4⟩:=h;refine⟨r,ents,clock,hk.trans h1,h2,h3,λi n s hi=>?_⟩;obtain⟨e,g1,g2,g3⟩:=h4 i n s hi;exact⟨e,g1,g2,(hd s _ (.inr trivial) g3).resolve_right id⟩
variable{S:LG}{S':LG}{Pm:LG}{Pm':LG}{ρ':ze}{m:Mem}
def je.scalar{w:World}{k k':Nat}(hk:ρ' k'=ρ k)(hf:zh5 m)(h:je S Pm ρ w k m):je S' Pm' ρ' w k' m:=by
 cases m with
 |box T cs=>
  obtain⟨b,vs,h1,h2,h3,h4,h5⟩:=h;exact⟨b,vs,hk.trans h1,h2,h3,h4,λj s v hs hv=>.d _ _ (u4 (ua hf j s hs) (h5 j s v hs hv))⟩
 |arr T enc sz xs=>
  obtain⟨v,cells,h1,h2,h3,h4,h5,h6⟩:=h;refine⟨v,cells,hk.trans h1,h2,h3,h4,h5,λi j x s hx hs=>?_⟩;obtain⟨u,hu,hd'⟩:=h6 i j x s hx hs;exact⟨u,hu,u4 (Pm:=Pm) (ρ:=ρ) (ua (hf x (Xf hx)) j s hs) (.d _ _ hd')⟩
 |garr T sz xs=>exact hf.elim
 |map es=>
  obtain⟨r,ents,clock,h1,h2,h3,h4⟩:=h;refine⟨r,ents,clock,hk.trans h1,h2,h3,λi n s hi=>?_⟩;obtain⟨e,g1,g2,g3⟩:=h4 i n s hi;exact⟨e,g1,g2,u4 (Pm:=Pm) (ρ:=ρ) (ua hf i s (by simp[hi])) (.d _ _ g3)⟩
def one(v:Value):ze:=λk=>if k=0 then some v else none
def zaZ{v:Value}{b:Nat}:Own [(0,m)] (one v) b↔kI v=some b:=by
 constructor
 ·rintro⟨k,m',v',h,h1,h2⟩
  cases h with
  |head=>simp[one]at h1;subst h1;exact h2
  |tail _ h=>cases h
 intro h;exact⟨0,m,v,.head _,by simp[one],h⟩
def yQ{v:Value}:one v 0=some v:=rfl
variable{cs:LQ}
def zuL{k:Nat}(h:zk7 k cs=true):∀k' off,.loc k' off∈cs->k'≠k:=by
 induction cs with
 |nil=>intro _ _ h;cases h
 |cons c cs ih=>
  intro k' off hm e;subst e
  cases hm with
  |head=>simp[zk7,K4]at h
  |tail _ hm=>
   refine ih ?_ k' off hm rfl
   cases c <;> simp only[zk7]at h <;> (try split at h) <;> simp_all
def zoF(h:zbL lm cs=true):∀k off,.loc k off∈cs->∃m,lm k=some m:=by
 induction cs with
 |nil=>intro _ _ h;cases h
 |cons x xs ih=>
  intro k off hm;simp only[zbL]at h
  split at h
  ·rename_i hx
   cases hm with
   |head=>
    simp only[zbK]at hx
    cases hq:lm k with
    |none=>simp[hq]at hx
    |some m=>exact⟨m,rfl⟩
   |tail _ hm=>exact ih h k off hm
  cases h
def zsW{lm:LH}{Keep:LG}{M:LT}{ρ:ze}{w:World}(hlm:∀k m,lm k=some m->(k,m)∈M)(hm:zB Keep M ρ w){k:Nat}{m:Mem}{v0:Value}(hkm:lm k=some m)(hv0:ρ k=some v0){S' Pm':LG}(hsub:∀b,S' b->Keep b∨Own M ρ b)(hPm:∀b,Pm' b->kI v0=some b):
  ∀{cs:LQ} {vs:LZ},Gs (λb=>Keep b∨Own M ρ b) (Own M ρ) ρ w cs vs->za9 lm k cs=true->Gs S' Pm' (one v0) w (zwH lm k cs) vs
 |[],vs,hg,_=>by rw[hg.nil_inv];exact .nil
 |c::cs,vs,hg,hc=>by
  obtain⟨v,vs',rfl,h1,h2⟩:=hg.cons_inv;have hP:∀b,¬Own M ρ b->¬Pm' b:=λb hn hp=>hn ⟨k,m,v0,hlm k m hkm,hv0,hPm b hp⟩
  have hP2:∀k' b,(∃m',lm k'=some m')->k'≠k->ρ k'=some (.pointer (some ⟨b,0,none⟩))->¬Pm' b:=λk' b ⟨m',hm'⟩ hne hρ hp=>
   hm.apart k' m' k m _ v0 b (hlm k' m' hm') (hlm k m hkm) hne hρ hv0 rfl (hPm b hp)
  have key:G S' Pm' (one v0) w (give lm k c) v/\za9 lm k cs=true:=by
   unfold za9 at hc
   split at hc
   ·rename_i heq;cases heq
   ·rename_i k' off r heq
    cases heq
    split at hc
    ·rename_i hb;have:=Xh hb;subst this;refine⟨?_,hc⟩;simp only[give,K4];obtain⟨b,hρ,rfl⟩:=h1.loc_inv;rw[hv0]at hρ;cases hρ
     exact .loc 0 off b yQ
    rename_i hb;obtain⟨hc1,hc2⟩:=zZ hc;refine⟨?_,hc2⟩;simp only[give,hb]
    have hlk:∃m',lm k'=some m':=by
     simp only[yE,zbK]at hc1
     cases hq:lm k' with
     |none=>simp[hq]at hc1
     |some m'=>exact⟨m',rfl⟩
    exact ziK hlm hm hsub h1 (.inl hc1) hP (λk2 off2 b he hρ=>by
     rcases he with he|⟨_,_,he,_⟩
     ·cases he;exact hP2 _ b hlk (KO hb) hρ
     cases he)
   ·rename_i k' r heq
    cases heq
    split at hc
    ·rename_i hb;have:=Xh hb;subst this;refine⟨?_,hc⟩;simp only[give,K4];obtain⟨hρ,h3⟩:=h1.own_inv;rw[hv0]at hρ;cases hρ
     exact .own 0 _ yQ h3
    cases hc
   ·rename_i k' sz lo n r heq
    cases heq
    split at hc
    ·rename_i hb;have:=Xh hb;subst this;refine⟨?_,hc⟩;simp only[give,K4];obtain⟨b,len,cap,cap',hρ,rfl,h3,h4⟩:=h1.win_inv;rw[hv0]at hρ;cases hρ
     exact .win 0 sz lo n b len cap cap' yQ h3 h4
    cases hc
   ·rename_i f caps r heq
    cases heq
    obtain⟨hc0,hc⟩:=zZ hc;obtain⟨hc1,hc2⟩:=zZ hc;refine⟨?_,hc2⟩;simp only[give];refine ziK hlm hm hsub h1 (.inl hc1) hP (λk2 off2 b he hρ=>?_)
    rcases he with he|⟨f',cs',he,hmem⟩
    ·cases he
    cases he
    refine hP2 k2 b ?_ (zuL hc0 k2 off2 hmem) hρ;simp only[yE]at hc1
    split at hc1
    ·rename_i hcl;exact zoF hcl k2 off2 hmem
    cases hc1
   rename_i s r hn1 hn2 hn2' hn3 heq
   cases heq
   obtain⟨hc1,hc2⟩:=zZ hc;refine⟨?_,hc2⟩
   have hgv:give lm k c=ziu lm c:=by
    cases c <;> first|rfl|exact absurd rfl (hn1 _ _)|exact absurd rfl (hn2 _)|exact absurd rfl (hn2' _ _ _ _)
   rw[hgv]
   exact ziK hlm hm hsub h1 (.inl hc1) hP (λk2 off2 b he hρ=>by
    rcases he with rfl|⟨f',cs',rfl,_⟩
    ·exact absurd rfl (hn1 _ _)
    exact absurd rfl (hn3 _ _))
  exact .cons key.1 (zsW hlm hm hkm hv0 hsub hPm h2 key.2)
def je.name{w:World}{k:Nat}(h:je S Pm ρ w k m):∃v,ρ k=some v:=by
 cases m with
 |box T cs=>obtain⟨b,vs,h1,_⟩:=h;exact⟨_,h1⟩
 |arr T enc sz xs=>obtain⟨v,cells,h1,_⟩:=h;exact⟨_,h1⟩
 |garr T sz xs=>obtain⟨v,cells,h1,_⟩:=h;exact⟨_,h1⟩
 |map es=>obtain⟨r,ents,clock,h1,_⟩:=h;exact⟨_,h1⟩
def mv_g{w:World}{v0:Value}(h0:ρ' 0=some v0)(hκ:ρ κ=some v0):∀(r:SV) {v:Value},zaj r=true->G S' Pm' ρ' w r v->G S Pm ρ w (mv κ r) v:=by
 intro r
 induction r using SV.rec (motive_2:=λcs=>∀{vs:LZ},zaj.mvOKs cs=true->Gs S' Pm' ρ' w cs vs->Gs S Pm ρ w (mv.mvs κ cs) vs) with
 |val v=>intro u _ hg;exact .d _ _ (hg.val_inv ▸ .val _)
 |pr p i=>intro u _ hg;rw[hg.pr_inv];exact .d _ _ (.pr p i)
 |agg cs ih=>
  intro u h hg;simp only[zaj]at h;obtain⟨vs,rfl,hvs⟩:=hg.agg_inv;have:=ih h hvs;simp only[mv];exact .agg _ vs this.1 this.2
 |tup cs ih=>
  intro u h hg;simp only[zaj]at h;obtain⟨vs,rfl,hvs⟩:=hg.tup_inv;have:=ih h hvs;simp only[mv];exact .tup _ vs this.1 this.2
 |own k=>
  intro u h hg;simp only[zaj]at h;have:=Xh h;subst this;obtain⟨g1,g2⟩:=hg.own_inv;rw[h0]at g1;cases g1
  simp only[mv];exact .own _ _ hκ g2
 |sl _ _=>intro u h _;simp[zaj]at h
 |ptr _ _=>intro u h _;simp[zaj]at h
 |loc k off=>
  intro u h hg;simp only[zaj]at h;have:=Xh h;subst this;obtain⟨b,g1,rfl⟩:=hg.loc_inv;rw[h0]at g1;cases g1
  simp only[mv];exact .loc _ _ _ hκ
 |eloc _ _ _ _=>intro u h _;simp[zaj]at h
 |win _ _ _ _=>intro u h _;simp[zaj]at h
 |fn f cs ih=>
  intro u h hg;simp only[zaj]at h;obtain⟨vs,rfl,hvs⟩:=hg.fn_inv;have:=ih h hvs;simp only[mv];exact .fn _ _ vs this.1 this.2
 |dptr _ _=>intro u h _;simp[zaj]at h
 |dfn _ _ _=>intro u h _;simp[zaj]at h
 |bm _ _ _=>intro u h _;simp[zaj]at h
 |op _=>intro u h _;simp[zaj]at h
 |ifc t s ih=>
  intro u h hg;simp only[zaj]at h;obtain⟨v,rfl,hv⟩:=hg.ifc_inv;simp only[mv];exact .ifc t _ v (ih h hv)
 |junk=>intro u _ _;exact .d _ _ (.junk u)
 |nils=>intro u h _;simp[zaj]at h
 |anyb=>intro u h _;simp[zaj]at h
 |full _ _=>intro u h _;simp[zaj]at h
 |nil=>
  rename_i vs _ hg
  simpa[mv.mvs,hg.nil_inv] using Gs.nil
 |cons c cs ih1 ih2=>
  rename_i vs h hg;simp only[zaj.mvOKs]at h
  split at h
  ·rename_i h1;obtain⟨v,vs',rfl,g1,g2⟩:=hg.cons_inv;exact .cons (ih1 h1 g1) (ih2 h g2)
  cases h
def zrg{o:Option Mem}(h:zwI o=true):∃(T:TypeId) (α:Type) (enc:α->LQ) (sz:Nat) (xs:List α),o=some (.arr T enc sz xs):=by
 unfold zwI at h
 split at h
 ·exact⟨_,_,_,_,_,rfl⟩
 cases h
def zrh{lm:LH}{Keep:LG}{M:LT}{ρ:ze}{w:World}(hlm:∀k m,lm k=some m->(k,m)∈M)(hm:zB Keep M ρ w){k:Nat}{T:TypeId}{α:Type}{enc:α->LQ}{sz:Nat}{xs:List α}(hkm:lm k=some (.arr T enc sz xs)){S':LG}(hsub:∀b,S' b->Keep b∨Own M ρ b)(hk:∀v b,ρ k=some v->kI v=some b->¬S' b){Pm':LG}(hP:∀b,¬Pm' b){ρ':ze}:
  ∀{cs:LQ} {vs:LZ},Gs (λb=>Keep b∨Own M ρ b) (Own M ρ) ρ w cs vs->zwJ lm k cs=true->Gs S' Pm' ρ' w (zcr lm cs) vs
 |[],vs,hg,_=>by rw[hg.nil_inv];exact .nil
 |c::cs,vs,hg,hc=>by
  obtain⟨v,vs',rfl,h1,h2⟩:=hg.cons_inv;unfold zwJ at hc
  split at hc
  ·rename_i heq;cases heq
  ·rename_i k' r heq
   cases heq
   split at hc
   ·rename_i hb;have:=Xh hb;subst this;refine .cons ?_ (zrh hlm hm hkm hsub hk hP h2 hc);simp only[ziu,zhm,hkm];exact .d _ _ (zej hm (hlm _ _ hkm) hsub hk h1.own_inv.1)
   cases hc
  rename_i s r hn heq
  cases heq
  obtain⟨hc1,hc2⟩:=zZ hc;exact .cons (ziK hlm hm hsub h1 (.inl hc1) (λb _=>hP b) (λ_ _ b _ _=>hP b)) (zrh hlm hm hkm hsub hk hP h2 hc2)
def zbT{c:Call}(open_args:∀{S Pm:LG} {ρ:ze} {a:Act} {w:World},Gs S Pm ρ w svs ((kL (.call c)).map a.eval)->
   ∃vs0,(∀o:Oper,o.op=.call c->zcD P f->(execOp a.eval o).run P w=.ok (.enter f (List.toArray vs0)) w)/\Gs S Pm ρ w za vs0)
  (h:zb P lm κ f za K):∃r md,K r md/\ya P (.call c) svs lm κ r md:=by
 cases h with
 |to r hcall hr hk=>
  refine⟨r,.none,qn hk,λo ho Keep M ρ a w hlm hm _ _ hgs=>?_⟩;have hlm':=λk m h=>zn (hlm k m h)
  obtain⟨vs0,hrun,hg⟩:=open_args hgs;refine qk.call (hrun o ho hcall.1) ?_
  by_cases hcl:yE lm za=true
  ·have hr:zit r=true:=by unfold zsL at hr;rw[hcl]at hr;exact hr
   have hb:∀b,(Keep b∨Own M ρ b)->b<w.heap.size:=λb hb=>hb.elim (hm.kp b) λh=>(hm.old b h).1
   have hv:Gs (λb=>(Keep b∨Own M ρ b)∨Own [] (λ_=>none) b) (Own [] (λ_=>none)) (λ_=>none) w (zcr lm za) vs0:=
    zfp hlm' hm (λb h=>h.resolve_right zF) (λ_=>zF) hg (.inl hcl)
   refine(hcall.2 (λb=>Keep b∨Own M ρ b) (λ_=>none) w _ hb (kS hb λ_ _ h=>hm.glc h) (λ_ _=>rfl) hv).mono ?_
   rintro e w' ⟨v,ρ',rfl,hs,_,hgr⟩
   obtain⟨hs',hm'⟩:=hm.same hs.os hs.tape hs.output hs.size λb hb=>hs.block b hb zF
   exact⟨v,rfl,ρ,hs',hm',zia (λb h=>.inl h) hr hgr,λ_ _=>rfl⟩
  have hr:zh4 r=true:=by unfold zsL at hr;rw[Bool.eq_false_iff.2 hcl]at hr;exact hr
  have hv:Gs (λb=>False∨Own [] (λ_=>none) b) (Own [] (λ_=>none)) (λ_=>none) w (zcr lm za) vs0:=
   zfp hlm' hm (λb h=>(h.resolve_left id |> zF).elim) (λ_=>zF) hg (.inr λb _ h=>zF (h.resolve_left id))
  refine(hcall.2 (λ_=>False) (λ_=>none) w _ (λ_ h=>h.elim) (kS (λ_ h=>h.elim) λ_ _ h=>hm.glc h) (λ_ _=>rfl) hv).mono ?_
  rintro e w' ⟨v,ρ',rfl,hs,_,hgr⟩
  obtain⟨hs',hm'⟩:=hm.same hs.os hs.tape hs.output hs.size λb hb=>hs.block b hb zF
  exact⟨v,rfl,ρ,hs',hm',zuK hr hgr,λ_ _=>rfl⟩
 |fresh m r hcall hr0 hfm hcl hk=>
  refine⟨_,_,qn hk,λo ho Keep M ρ a w hlm hm hκ hκM hgs=>?_⟩;replace hκ:=hκ _ (Xi _) (X2 _);replace hκM:=hκM rfl;have hlm':=λk m h=>zn (hlm k m h)
  obtain⟨vs0,hrun,hg⟩:=open_args hgs;refine qk.call (hrun o ho hcall.1) ?_
  have fin:∀(S0:LG),((∀b,Keep b∨Own M ρ b->S0 b)∨zh5 m)->∀(w':World) (v:Value) (ρ':ze),Stp (Own [] (λ_=>none)) (Own [(0,m)] ρ') (λ_=>none) ρ' w w'->zB S0 [(0,m)] ρ' w'->
    G (λb=>S0 b∨Own [(0,m)] ρ' b) (Own [(0,m)] ρ') ρ' w' r v->kG Keep M ρ w κ (mv κ r) (.push m) v w':=by
   intro S0 hS0 w' v1 ρ' hs hm' hgr;obtain⟨v,hv0⟩:=(hm'.rel 0 m (.head _)).name
   have hownv:∀b,kI v=some b->w.heap.size<=b/\b<w'.heap.size:=λb hb=>
    have ho:Own [(0,m)] ρ' b:=⟨0,m,v,.head _,hv0,hb⟩
    ⟨(hs.own b ho).resolve_left zF,(hm'.old b ho).1⟩
   have hown0:∀b,Own [(0,m)] ρ' b->kI v=some b:=by
    rintro b ⟨k,m',v',h,h1,h2⟩
    cases h with
    |head=>rw[hv0]at h1;cases h1;exact h2
    |tail _ h=>cases h
   refine kG.push (u:=v) (hm.grow (λ_ h=>h) hm.keys hκ hκM v m w' hs.os hs.tape hs.output hs.size (λb hb _=>hs.block b hb zF)
    (λk m v b h1 h2 h3=>hs.block b (hm.old b ⟨k,m,v,h1,h2,h3⟩).1 zF)
    (λb hb=>⟨.inr (hownv b hb).1,(hownv b hb).2,λk m v' h1 h2 h3=>by have:=(hm.old b ⟨k,m,v',h1,h2,h3⟩).1;have:=(hownv b hb).1;omega⟩) λhst=>?_) (mv_g hv0 z7 r hr0 hgr)
   rcases hS0 with hS0|hsc
   ·refine je.move (S:=λb=>S0 b∨Own [(0,m)] ρ' b) (Pm:=Own [(0,m)] ρ') (by rw[z7,hv0]) hfm (λs u _ hd=>.inl (hd.less λb hb=>?_)) (hm'.rel 0 m (.head _))
    rcases hb with hb|⟨k,m',v',h1,h2,h3⟩
    ·exact .inl (hS0 b (.inl hb))
    cases h1 with
    |head=>rw[z7]at h2;cases h2;exact .inr ⟨0,m,v,.head _,hv0,h3⟩
    |tail _ h1=>rw[zeO (λe=>by subst e;exact hκM _ h1)]at h2;exact .inl (hS0 b (.inr ⟨k,m',v',h1,h2,h3⟩))
   exact je.scalar (by rw[z7,hv0]) hsc (hm'.rel 0 m (.head _))
  by_cases hcl':yE lm za=true
  ·have hb:∀b,(Keep b∨Own M ρ b)->b<w.heap.size:=λb hb=>hb.elim (hm.kp b) λh=>(hm.old b h).1
   have hv:Gs (λb=>(Keep b∨Own M ρ b)∨Own [] (λ_=>none) b) (Own [] (λ_=>none)) (λ_=>none) w (zcr lm za) vs0:=
    zfp hlm' hm (λb h=>h.resolve_right zF) (λ_=>zF) hg (.inl hcl')
   refine(hcall.2 (λb=>Keep b∨Own M ρ b) (λ_=>none) w _ hb (kS hb λ_ _ h=>hm.glc h) (λ_ _=>rfl) hv).mono ?_
   rintro e w' ⟨v,ρ',rfl,hs,hm',hgr⟩
   exact⟨v,rfl,fin _ (.inl λb h=>h) w' v ρ' hs hm' hgr⟩
  have hsc:=hcl.resolve_left hcl'
  have hv:Gs (λb=>False∨Own [] (λ_=>none) b) (Own [] (λ_=>none)) (λ_=>none) w (zcr lm za) vs0:=
   zfp hlm' hm (λb h=>(h.resolve_left id |> zF).elim) (λ_=>zF) hg (.inr λb _ h=>zF (h.resolve_left id))
  refine(hcall.2 (λ_=>False) (λ_=>none) w _ (λ_ h=>h.elim) (kS (λ_ h=>h.elim) λ_ _ h=>hm.glc h) (λ_ _=>rfl) hv).mono ?_
  rintro e w' ⟨v,ρ',rfl,hs,hm',hgr⟩
  exact⟨v,rfl,fin _ (.inr hsc) w' v ρ' hs hm' hgr⟩
 |see k r hcall hka hcs hr hk=>
  obtain⟨T,α,enc,sz,xs,hlk⟩:=zrg hka;refine⟨r,.drop k,qn hk,λo ho Keep M ρ a w hlm hm _ _ hgs=>?_⟩;have hlm':=λk m h=>zn (hlm k m h)
  obtain⟨vs0,hrun,hg⟩:=open_args hgs;refine qk.call (hrun o ho hcall.1) ?_;have hmem:=hlm' k _ hlk;have hsub:∀b,(Keep b∨Own (z5 M k) ρ b)->Keep b∨Own M ρ b:=λb hb=>hb.imp id λ⟨k',m',v',h1,h2,h3⟩=>⟨k',m',v',kF _ h1,h2,h3⟩
  have hb:∀b,(Keep b∨Own (z5 M k) ρ b)->b<w.heap.size:=λb hb=>(hsub b hb).elim (hm.kp b) λh=>(hm.old b h).1
  have hkk:∀v b,ρ k=some v->kI v=some b->¬(Keep b∨Own (z5 M k) ρ b):=λv b hv' hb hSb=>by
   rcases hSb with hSb|⟨k',m',v',h4,h5,h6⟩
   ·exact(hm.old b ⟨k,_,v,hmem,hv',hb⟩).2 hSb
   exact hm.apart k _ k' m' v v' b hmem (kF _ h4) (YM (yP hm.keys _ h4)) hv' h5 hb h6
  have hv:Gs (λb=>(Keep b∨Own (z5 M k) ρ b)∨Own [] (λ_=>none) b) (Own [] (λ_=>none)) (λ_=>none) w (zcr lm za) vs0:=
   zrh hlm' hm hlk (λb h=>hsub b (h.resolve_right zF)) (λv b h1 h2 h3=>hkk v b h1 h2 (h3.resolve_right zF)) (λ_=>zF) hg hcs
  refine(hcall.2 (λb=>Keep b∨Own (z5 M k) ρ b) (λ_=>none) w _ hb (kS hb λ_ _ h=>hm.glc h) (λ_ _=>rfl) hv).mono ?_
  rintro e w' ⟨v,ρ',rfl,hs,_,hgr⟩
  obtain⟨hs1,hm1⟩:=hm.let_go (M1:=z5 M k) (λx hx=>kF x hx) (k7 hm.keys);obtain⟨hs',hm'⟩:=hm1.same hs.os hs.tape hs.output hs.size λb hb=>hs.block b hb zF
  exact⟨v,rfl,ρ,⟨hs.os,hs.tape,hs.output,hs.size,λb hb _=>hs.block b hb zF,λb ⟨k',m',v',h1,h2,h3⟩=>.inl ⟨k',m',v',kF _ h1,h2,h3⟩,λ_ _ h=>h⟩,hm',
   zia (λb h=>.inl h) hr hgr,λ_ _=>rfl⟩
 |hand k m m' r hlk hcall hfm hfm' hcl hr hk=>
  refine⟨r,.set k m',qn hk,λo ho Keep M ρ a w hlm hm _ _ hgs=>?_⟩;have hlm':=λk m h=>zn (hlm k m h)
  obtain⟨vs0,hrun,hg⟩:=open_args hgs;refine qk.call (hrun o ho hcall.1) ?_;have hkm:=hlm' k m hlk;obtain⟨v0,hv0⟩:=(hm.rel k m hkm).name
  have hS:∀b,((Keep b∨Own M ρ b)/\kI v0≠some b)∨Own [(0,m)] (one v0) b->Keep b∨Own M ρ b:=λb hb=>
   hb.elim (λh=>h.1) λh=>.inr ⟨k,m,v0,hkm,hv0,zaZ.1 h⟩
  have hlt:∀b,(Keep b∨Own M ρ b)->b<w.heap.size:=λb hb=>hb.elim (hm.kp b) λh=>(hm.old b h).1
  have hm0:zB (λb=>(Keep b∨Own M ρ b)/\kI v0≠some b) [(0,m)] (one v0) w:=by
   refine⟨λk' m1 h=>?_,XY.2 ⟨λ_ h=>(by cases h),List.Pairwise.nil⟩,λk1 m1 k2 m2 _ _ _ h1 h2 hne=>?_,λb hb=>?_,λb hb=>hlt b hb.1,λg v h=>⟨λho=>(hm.gl g v h).1 ⟨k,m,v0,hkm,hv0,zaZ.1 ho⟩,hm.glc h⟩⟩
   ·cases h with
    |head=>exact je.move (by rw[yQ,hv0]) hfm (λs u _ hd=>.inl (hd.less hS)) (hm.rel k m hkm)
    |tail _ h=>cases h
   ·cases h1 with
    |head=>cases h2 with
     |head=>exact absurd rfl hne
     |tail _ h=>cases h
    |tail _ h=>cases h
   have:=zaZ.1 hb;exact⟨(hm.old b ⟨k,m,v0,hkm,hv0,this⟩).1,λh=>h.2 this⟩
  have hgv:=zsW (Pm':=Own [(0,m)] (one v0)) hlm' hm hlk hv0 hS (λb hb=>zaZ.1 hb) hg hcl
  refine(hcall.2 _ (one v0) w _ (λb hb=>hlt b hb.1) hm0 (λk' hk'=>by
   have:k'≠0:=by simp at hk';omega
   simp[one,this]) hgv).mono ?_
  rintro e w' ⟨v,ρ',rfl,hs,hm',hgr⟩
  have hρ0:ρ' 0=some v0:=hs.rho 0 v0 yQ
  have hown':∀b,Own [(0,m')] ρ' b->kI v0=some b:=by
   rintro b ⟨k1,m1,v1,h,h1,h2⟩
   cases h with
   |head=>rw[hρ0]at h1;cases h1;exact h2
   |tail _ h=>cases h
  have hkeys:(kO M k m').map (·.1)=M.map (·.1):=u0
  have hst:Stp (Own M ρ) (Own (kO M k m') ρ) ρ ρ w w':=
   ⟨hs.os,hs.tape,hs.output,hs.size,λb hb hn=>hs.block b hb λho=>hn ⟨k,m,v0,hkm,hv0,zaZ.1 ho⟩,λb hb=>.inl (uF hkeys.symm hb),λ_ _ h=>h⟩
  have hback:∀b,Keep b∨Own (kO M k m') ρ b->((Keep b∨Own M ρ b)/\kI v0≠some b)∨Own [(0,m')] ρ' b:=λb hb=>by
   by_cases hbv:kI v0=some b
   ·exact .inr ⟨0,m',v0,.head _,hρ0,hbv⟩
   exact .inl ⟨hb.imp id λh=>uF hkeys.symm h,hbv⟩
  refine⟨v,rfl,ρ,hst,zB.next k hm hst (jC hkeys hm.keys) ?_ ?_ ?_,zia hback hr hgr,λ_ _=>rfl⟩
  ·intro k' m1 h1 hne
   obtain⟨_,h2⟩|h2:=qJ hm.keys _ h1
   ·refine⟨h2,rfl,λv' b' hv' hb'=>hs.block b' (hm.old b' ⟨k',m1,v',h2,hv',hb'⟩).1 λho=>?_⟩;exact hm.apart k' m1 k m v' v0 b' h2 hkm hne hv' hv0 hb' (zaZ.1 ho)
   cases h2;exact absurd rfl hne
  ·intro m1 h1
   obtain⟨h2,_⟩|h2:=qJ hm.keys _ h1
   ·exact absurd rfl h2
   cases h2
   exact je.move (by rw[hv0,hρ0]) hfm' (λs u _ hd=>.inl (hd.less hback)) (hm'.rel 0 m' (.head _))
  intro m1 v' b' _ hv' hb';rw[hv0]at hv';cases hv'
  have ho:Own M ρ b':=⟨k,m,v0,hkm,hv0,hb'⟩;refine⟨λk' m2 v2 h2 hne hv2 hb2=>?_,Xy (hm.old b' ho).1 hs.size,(hm.old b' ho).2⟩
  obtain⟨_,h3⟩|h3:=qJ hm.keys _ h2
  ·exact hm.apart k' m2 k m v2 v0 b' h3 hkm hne hv2 hv0 hb2 hb'
  cases h3;exact absurd rfl hne
 |give ks nn args' Mc M' r hcall ha hl hn hk hM hr hM' hkk=>
  refine⟨_,_,qn (zfv hkk),λo ho Keep M ρ a w hlm hm hκ _ hgs=>?_⟩;obtain⟨vs0,hrun,hg⟩:=open_args hgs;exact qk.call (hrun o ho hcall.1)<|zre hcall ha hl hn hk hM hr hM' hlm hm hκ hg
def zDO{vs:LZ}{S Pm:LG}{ρ:ze}{w:World}:Gs S Pm ρ w (vs.map .val) vs:=by
 refine⟨sI,λj s v h1 h2=>?_⟩;rw[XA,h2]at h1
 cases h1
 exact .d _ _ (.val v)
def ofV_g{v:Value}{w:World}:G S Pm ρ w (ofV v) v:=by
 unfold ofV
 split
 ·rename_i a;have this:=zDO (vs:=a.toList) (S:=S) (Pm:=Pm) (ρ:=ρ) (w:=w);have h:=G.agg (S:=S) (Pm:=Pm) (ρ:=ρ) (w:=w) _ _ this.1 this.2
  simpa using h
 exact .d _ _ (.val v)
def zDP{w:World}:Gs S Pm ρ w (vs.map ofV) vs:=by
 refine⟨sI,λj s v h1 h2=>?_⟩;rw[XA,h2]at h1
 cases h1
 exact ofV_g
def ziR:∀{cs:LQ} {K:LZ->Prop},zsO cs K->∃vs,K vs/\cs=vs.map .val
 |[],K,h=>⟨[],h,rfl⟩
 |.val v::cs,K,h=>by
  have h:zsO cs λvs=>K (v::vs):=h
  obtain⟨vs,h1,h2⟩:=ziR h;exact⟨v::vs,h1,by rw[h2];rfl⟩
def zuM{s:SV}{K:Value->Prop}(h:conc s K):∃v,K v/\∀{S Pm:LG} {ρ:ze} {w:World} {u:Value},G S Pm ρ w s u->u=v:=by
 cases s with
 |val v=>exact⟨v,h,λhu=>hu.val_inv⟩
 |agg cs=>
  obtain⟨vs,h1,h2⟩:=ziR h;refine⟨_,h1,λhu=>?_⟩;obtain⟨us,rfl,hus⟩:=hu.agg_inv;subst h2
  have:us=vs:=by
   refine Kv λj=>?_
   have hl:=hus.1;rw[Xz]at hl
   rcases X7 j vs.length with hj|hj
   ·have h1:=hus.2 j (.val vs[j]) (us[j]'oM) (by simp[hj]) sI;rw[Xa oM,Xa hj,h1.val_inv]
   rw[XF oM,XF hj]
  rw[this]
 |_=>exact h.elim
def ziS:∀{cs:LQ} {K:LZ->Prop},zsP cs K->∃vs,K vs/\∀{S Pm:LG} {ρ:ze} {w:World} {us:LZ},Gs S Pm ρ w cs us->us=vs
 |[],K,h=>⟨[],h,λhg=>hg.nil_inv⟩
 |c::cs,K,h=>by
  have h:conc c λv=>zsP cs λvs=>K (v::vs):=h
  obtain⟨v,h,h1⟩:=zuM h;obtain⟨vs,h,h2⟩:=ziS h;refine⟨v::vs,h,λhg=>?_⟩;obtain⟨u,us,rfl,g1,g2⟩:=hg.cons_inv;rw[h1 g1,h2 g2]
def zgI(hT:TOK P Γ){op:Op}(hlive:Live lm svs)(h:opV P Γ op svs lm κ K):∃r md,K r md/\ya P op svs lm κ r md:=by
 unfold opV at h
 split at h
 ·rename_i x s;exact⟨s,.none,h,.pure λo ho S Pm ρ a w hgs=>⟨_,by simp[execOp,ho],Gs.head hgs⟩⟩
 ·rename_i x s;exact⟨s,.none,h,.pure λo ho S Pm ρ a w hgs=>⟨_,by simp[execOp,ho],Gs.head hgs⟩⟩
 ·obtain⟨r,h1,h2⟩:=zq9 h;exact⟨r,_,h1,h2⟩
 ·exact zoo hT h
 ·exact zrf h
 ·obtain⟨r,h1,h2⟩:=zow hT h;exact⟨r,_,h1,h2⟩
 ·exact zgC hT h
 ·obtain⟨r,h1,h2⟩:=zrb hT h;exact⟨r,_,h1,h2⟩
 ·exact zop hT h
 ·split at h
  ·exact⟨_,_,h,.pure λo ho S Pm ρ a w hgs=>by
    obtain⟨b,hρ,hx⟩:=(Gs.head hgs).loc_inv
    exact⟨_,by simp[execOp,ho,hx],.loc _ _ b hρ⟩⟩
  ·rename_i cs
   exact⟨_,_,h,.pure λo ho S Pm ρ a w hgs=>by
    have hg:=Gs.head hgs;obtain⟨b,o',c,hx,_⟩:=hg.ptr_inv;rw[hx]at hg
    exact⟨_,by simp[execOp,ho,hx],hg⟩⟩
  ·rename_i cs
   exact⟨_,_,h,.pure λo ho S Pm ρ a w hgs=>by
    have hg:=Gs.head hgs;obtain⟨b,o',c,hx,_⟩:=hg.dptr_inv;rw[hx]at hg
    exact⟨_,by simp[execOp,ho,hx],hg⟩⟩
  ·exact⟨_,_,h,.pure λo ho S Pm ρ a w hgs=>by
    have hg:=Gs.head hgs;obtain⟨b,len,cap,_,hx⟩:=hg.eloc_inv;rw[hx]at hg
    exact⟨_,by simp[execOp,ho,hx],hg⟩⟩
  ·exact⟨_,_,h,.pure λo ho S Pm ρ a w hgs=>by
    have hg:=Gs.head hgs;obtain⟨v,hx,_⟩:=hg.ifc_inv;rw[hx]at hg
    exact⟨_,by simp[execOp,ho,hx],hg⟩⟩
  exact h.elim
 ·obtain⟨r,h1,h2⟩:=zuG hT h;exact⟨r,_,h1,h2⟩
 ·obtain⟨r,h1,h2⟩:=zwX h;exact⟨r,_,h1,h2⟩
 ·rename_i src t x s;replace h:=zo h;obtain⟨i0,hi0,h⟩:=h;obtain⟨d0,hd0⟩:=(hT src i0 hi0).und;replace h:=zo h;obtain⟨i,hi,h⟩:=h;have hk:=(hT t i hi).kind
  split at h
  ·rename_i k k' n hkind;rw[hkind]at hk;have hk:P.underlying t=some (.int k):=hk;refine⟨_,_,uv h,.pure λo ho S Pm ρ a w hgs=>⟨.int k (k.wrap n),?_,(vL.val _).g⟩⟩;have hx:=(Gs.head hgs).val_inv;simp[execOp,ho,hx,convert,run_underlying hd0,run_underlying hk,Conv.intToInt]
  exact h.elim
 ·rename_i fn first caps
  split at h
  ·rename_i f
   split at h
   ·rename_i he;refine⟨_,_,h,.pure λo ho S Pm ρ a w hgs=>?_⟩;have hf:first=#[]:=by simpa using he
    subst hf;replace hgs:Gs S Pm ρ w svs (caps.toList.map a.eval):=hgs;refine⟨.func (.func f) #[] (caps.toList.map a.eval).toArray,?_,.fn f _ _ hgs.1 hgs.2⟩;have he:caps.map a.eval=(caps.toList.map a.eval).toArray:=by apply QT;simp
    rw[←he];simp[execOp,ho,Instr.makeFunc]
   replace h:=zf h;obtain⟨he,h⟩:=h
   split at h
   rotate_left
   ·replace h:=zf h;obtain⟨hfl,h⟩:=h;have hf:caps=#[]:=by simpa using he
    subst hf;refine⟨_,_,h,.pure λo ho S Pm ρ a w hgs=>?_⟩;have hgs:Gs S Pm ρ w svs ((first.toList++[]).map a.eval):=hgs;rw[XM]at hgs;refine⟨.func (.func f) (first.toList.map a.eval).toArray #[],?_,.d _ _ (.bm f _ _ hgs.1 λj s v h1 h2=>y9 (jY hfl j s h1) (hgs.2 j s v h1 h2))⟩;have he:first.map a.eval=(first.toList.map a.eval).toArray:=by apply QT;simp
    rw[←he];simp[execOp,ho,Instr.makeFunc]
   obtain⟨vs,h,h1⟩:=ziS h;have hf:caps=#[]:=by simpa using he
   subst hf;refine⟨_,_,h,.pure λo ho S Pm ρ a w hgs=>⟨_,?_,.d _ _ (.val _)⟩⟩;have hgs:Gs S Pm ρ w svs ((first.toList++[]).map a.eval):=hgs;rw[XM]at hgs;have he:first.map a.eval=vs.toArray:=by apply QT;simpa using h1 hgs
   simp[execOp,ho,Instr.makeFunc,he]
  exact h.elim
 ·exact zh0 hT h
 ·exact zm5 hT h
 ·obtain⟨r,h1,h2⟩:=zhY hT h;exact⟨r,_,h1,h2⟩
 ·obtain⟨r,h1,h2⟩:=zos hT h;exact⟨r,_,h1,h2⟩
 ·obtain⟨r,h1,h2⟩:=zhZ hT h;exact⟨r,_,h1,h2⟩
 ·obtain⟨r,h1,h2⟩:=zot hT h;exact⟨r,_,h1,h2⟩
 ·rename_i x n s
  split at h
  ·rename_i vs
   split at h
   ·rename_i v r hd;refine⟨_,_,qn h,.pure λo ho S Pm ρ a w hgs=>?_⟩;obtain⟨us,hx,hus⟩:=(Gs.head hgs).tup_inv;have hg:=hus.drop n;rw[hd]at hg;obtain⟨u,us',hu,h1,_⟩:=hg.cons_inv
    have hu':us[n]?=some u:=by
     have:(us.drop n)[0]?=some u:=by rw[hu];rfl
     simpa using this
    exact⟨u,by simp[execOp,ho,hx,Instr.extract,hu'],h1⟩
   exact h.elim
  exact h.elim
 ·obtain⟨r,h1,h2⟩:=zkT hT h;exact⟨r,_,h1,h2⟩
 ·exact zkS hT h
 ·exact(zfr hT h).1
 ·exact(zfr hT h).2
 ·obtain⟨r,h1,h2⟩:=zm3 hT h;exact⟨r,_,h1,h2⟩
 ·rename_i svs c
  split at h
  ·rename_i fx hc
   split at h
   ·rename_i f caps args;refine zbT (λ{S Pm ρ a w} hg=>?_) h;have hg:Gs S Pm ρ w (.fn f caps::args) (a.eval fx::c.args.toList.map a.eval):=by simpa[kL,hc,zdC] using hg
    obtain⟨cv,h1,h2⟩:=hg.head.fn_inv;exact⟨_,λo ho hcl=>zfq (fs:=[]) ho hc h1 rfl hcl,hg.tail.append h2⟩
   ·rename_i f first args
    refine zbT (λ{S Pm ρ a w} hg=>?_) h;have hg:Gs S Pm ρ w (.val (.func (.func f) first ⟨[]⟩)::args) (a.eval fx::c.args.toList.map a.eval):=by simpa[kL,hc,zdC] using hg
    refine⟨first.toList++(_++[]),λo ho hcl=>zfq (fs:=first.toList) (caps:=[]) ho hc hg.head.val_inv rfl hcl,zDP.append ?_⟩;rw[XM];exact hg.tail
   ·rename_i f caps args;refine zbT (λ{S Pm ρ a w} hg=>?_) h;have hg:Gs S Pm ρ w (.dfn f caps::args) (a.eval fx::c.args.toList.map a.eval):=by simpa[kL,hc,zdC] using hg
    obtain⟨cv,h1,h2⟩:=hg.head.dfn_inv;exact⟨_,λo ho hcl=>zfq (fs:=[]) ho hc h1 rfl hcl,hg.tail.append h2⟩
   ·rename_i f first args
    refine zbT (λ{S Pm ρ a w} hg=>?_) h;have hg:Gs S Pm ρ w (.bm f first::args) (a.eval fx::c.args.toList.map a.eval):=by simpa[kL,hc,zdC] using hg
    obtain⟨fv,h1,h2⟩:=hg.head.bm_inv;refine⟨fv++(_++[]),λo ho hcl=>zfq (fs:=fv) (caps:=[]) ho hc h1 rfl hcl,h2.append ?_⟩;rw[XM];exact hg.tail
   exact h.elim
  ·exact h.elim
  rename_i b hb;exact zkR hT hb hlive h
 exact h.elim
variable{L:LP}
def zbU{K:SV->Prop}(h:ev L x K):
  ∃s,K s/\∀{S Pm:LG} {ρ:ze} {a:Act} {w:World},(∀t s,x=.tmp t->z6 L t=some s->G S Pm ρ w s (a.tmps.getD t undef))->G S Pm ρ w s (a.eval x):=by
 unfold ev at h
 split at h
 ·split at h
  ·rename_i t _ s hs;exact⟨s,qn h,λhr=>hr _ _ rfl hs⟩
  exact h.elim
 ·exact⟨_,qn h,λ_=>.d _ _ (.val _)⟩
 ·exact⟨_,h,λ_=>.fn _ [] [] rfl λj s v h=>by simp at h⟩
 exact h.elim
def zfw{L:LP}:∀{xs:List Operand} {K:LQ->Prop},evs L xs K->
  ∃svs,K svs/\∀{S Pm:LG} {ρ:ze} {a:Act} {w:World},(∀t s,t∈zgv xs->z6 L t=some s->G S Pm ρ w s (a.tmps.getD t undef))->Gs S Pm ρ w svs (xs.map a.eval)
 |[],K,h=>⟨[],h,λ_=>.nil⟩
 |x::xs,K,h=>by
  obtain⟨s,h,h1⟩:=zbU h;obtain⟨svs,h,h2⟩:=zfw h;refine⟨s::svs,h,λhr=>.cons (h1 λt s e hl=>hr t s ?_ hl) (h2 λt s ht hl=>hr t s ?_ hl)⟩
  ·subst e;exact .head _
  cases x <;> first|exact .tail _ ht|exact ht
def zap{k:Nat}(h:vT M κ k=some m):k<κ/\zH M k=some m:=by
 unfold vT at h
 split at h
 ·rename_i hb;exact⟨Xx hb,h⟩
 cases h
def k9{d:Option Tmp}{nt:Nat}{K:Prop}(h:zla d nt K):(∀t,d=some t->t<nt)/\K:=by
 unfold zla at h
 split at h
 ·obtain⟨h1,h2⟩:=zf h;exact⟨λt e=>by cases e;exact Xx h1,h2⟩
 exact⟨λt e=>(by cases e),h⟩
def zDQ:MD->Bool
 |.give _ _ _=>true
 |_=>false
def MdOK(all:List Oper)(i κ:Nat)(op:Op)(md:MD):Prop:=
 (isW op=true/\((∀k,md≠.drop k)/\zDQ md=false)/\∀k m,(md=.set k m∨md=.repl k m)->k<κ)∨md=.none∨((∃m,md=.push m)/\(zcH op=true∨zmU all i=true))
variable{draw:Bool}{i:Nat}{md:MD}
def zoG{all:List Oper}{op:Op}{K:Prop}(h:mdV draw all i κ op md K):K/\(draw=true->MdOK all i κ op md):=by
 unfold mdV at h
 split at h
 ·exact⟨h,λe=>by cases e⟩
 split at h
 ·rename_i hw
  split at h
  ·exact h.elim
  ·obtain⟨h1,h2⟩:=zf h;exact⟨h2,λ_=>.inl ⟨hw,⟨λk e=>(by cases e),rfl⟩,λk m e=>by rcases e with e|e <;> cases e;exact Xx h1⟩⟩
  ·obtain⟨h1,h2⟩:=zf h;exact⟨h2,λ_=>.inl ⟨hw,⟨λk e=>(by cases e),rfl⟩,λk m e=>by rcases e with e|e <;> cases e;exact Xx h1⟩⟩
  ·exact h.elim
  rename_i hn hn1 hn2 hn3;exact⟨h,λ_=>.inl ⟨hw,⟨λk e=>hn k e,by cases md <;> first|rfl|exact absurd rfl (hn3 _ _ _)⟩,λk m e=>e.elim (λe=>absurd e (hn1 k m)) (λe=>absurd e (hn2 k m))⟩⟩
 split at h
 ·exact⟨h,λ_=>.inr (.inl rfl)⟩
 ·split at h
  ·exact⟨h,λ_=>.inr (.inr ⟨⟨_,rfl⟩,.inl ‹_›⟩)⟩
  obtain⟨ho,hg⟩|h:=h
  ·exact⟨hg,λ_=>.inr (.inr ⟨⟨_,rfl⟩,.inr ho⟩)⟩
  exact h.elim
 exact h.elim
def zAN{P:Program}{Γ:LS}{op:Op}{svs:LQ}{lm lm':LH}{κ:Nat}{K:SV->MD->Prop}(hu:zcs op=false)(h:opV P Γ op svs lm κ K):opV P Γ op svs lm' κ K:=by
 cases op <;> first|(simp[zcs]at hu;done)|(rcases svs with _|⟨_,_|⟨_,_|⟨_,_|_⟩⟩⟩ <;> exact h)
variable{a:Act}
def qk.ex{o:Oper}{w:World}{R:Value->World->Prop}(h:qk P o a w R):∃v w',R v w':=by
 unfold qk Oper.wp at h;generalize (execOp a.eval o).run P w=r at*
 cases r with
 |ok n w'=>
  cases n <;> simp only[Oper.upon]at h
  case value v=>obtain⟨u,e,hr⟩:=h;exact⟨u,w',hr⟩
  case skip=>obtain⟨u,e,hr⟩:=h;exact⟨u,w',hr⟩
  case defer d=>obtain⟨u,e,hr⟩:=h;exact⟨u,w',hr⟩
  case enter f args=>
   obtain⟨e,w'',fr,hR,_⟩:=h []
   cases e with
   |returned v=>obtain⟨u,e,hr⟩:=hR;exact⟨u,w'',hr⟩
   |panicked c=>exact hR.elim
   |outgrown=>obtain⟨_,_,hf⟩:=hR;exact hf.elim
  case row row args=>
   obtain⟨v,w'',hR,_⟩:=h default [];obtain⟨u,e,hr⟩:=hR;exact⟨u,w'',hr⟩
 |halt x w'=>cases x <;> simp only[Oper.upon]at h
def zK{d t:Nat}{s:SV}:z6 ((d,s)::L) t=if d=t then some s else z6 L t:=by
 simp only[z6]
 by_cases h:d=t
 ·subst h;simp[K4]
 have:Nat.beq d t=false:=by
  cases hb:Nat.beq d t with
  |false=>rfl
  |true=>exact absurd (Xh hb) h
 simp[this,h]
def zfx{d t:Nat}{v:Value}(h:d<a.tmps.size):(a.put (some d) v).tmps.getD t undef=if d=t then v else a.tmps.getD t undef:=by
 simp only[Act.put]
 by_cases hd:d=t
 ·subst hd;simp[h]
 simp[hd]
def Rel.app{E:Env}{σ:St}{ρ:ze}{a:Act}{w w':World}{d:Option Tmp}{s:SV}{md:MD}{v:Value}(h:Rel E σ ρ a w)(hd:∀t,d=some t->t<σ.nt)(ha:kG E.Keep σ.M ρ w σ.nk s md v w'):∃ρ',Rel E (σ.app d s md) ρ' (a.put d v) w':=by
 obtain⟨ρ',hs,hm,hg,hρ⟩:=ha;refine⟨ρ',?_⟩
 have hregs:∀t s,z6 σ.L t=some s->t<σ.nt/\G (λb=>E.Keep b∨Own (zcy σ.M σ.nk md) ρ' b) (Own (zcy σ.M σ.nk md) ρ') ρ' w' s (a.tmps.getD t undef):=λt s hl=>
  ⟨(h.regs t s hl).1,((h.regs t s hl).2).stp hs⟩
 have hfresh:∀k,za8 σ.nk md<=k->ρ' k=none:=λk hk=>by
  have h1:σ.nk<=za8 σ.nk md:=by cases md <;> simp[za8]
  rw[hρ k (.inr hk)];exact h.fresh k oM
 cases d with
 |none=>exact⟨h.size,h.defers,hregs,hm,hfresh,h.stp.trans hs,h.keep,h.low⟩
 |some d=>
  have hlt:=hd d rfl;refine⟨by have:=h.size;simpa[Act.put,St.app] using this,h.defers,λt s' hl0=>?_,hm,hfresh,h.stp.trans hs,h.keep,h.low⟩;have hl:(if d=t then some s else z6 σ.L t)=some s':=by rw[←zK];exact hl0
  clear hl0;rw[zfx (by rw[h.size];exact hlt)]
  by_cases e:d=t
  ·subst e;rw[Xe rfl]at hl;cases hl
   rw[Xe rfl];exact⟨hlt,hg⟩
  rw[Xb e]at hl ⊢;exact hregs t s' hl
variable{E:Env}{σ:St}
def Rel.noKey{w:World}(h:Rel E σ ρ a w):∀m,(σ.nk,m)∉σ.M:=λm hm=>by
 obtain⟨v,hv⟩:=(h.mem.rel _ m hm).name;rw[h.fresh _ (Xi _)]at hv;cases hv
def ub{w:World}(hm:zB Keep M ρ w):kG Keep M ρ w κ (.val undef) .none undef w:=kG.same hm (.d _ _ (.val _))
structure zll (P:Program) (draw:Bool) (all:List Oper) (i:Nat) (o:Oper) (σ:St) (svs:LQ) (s:SV) (md:MD):Prop where
 ok:ya P o.op svs (if zcs o.op then vT σ.M σ.nk else λ_=>none) σ.nk s md
 ev:∀{S Pm:LG} {ρ:ze} {a:Act} {w:World},(∀t s,t∈zgv (kL o.op)->z6 σ.L t=some s->G S Pm ρ w s (a.tmps.getD t undef))->Gs S Pm ρ w svs ((kL o.op).map a.eval)
 dst:∀t,o.dst=some t->t<σ.nt
 md:draw=true->MdOK all i σ.nk o.op md
def zuN(hT:TOK P Γ){all:List Oper}{o:Oper}{K:St->Prop}{w:World}(hr:Rel E σ ρ a w)(h:zcM P Γ draw all i o σ K):∃svs s md,K (σ.app o.dst s md)/\zll P draw all i o σ svs s md:=by
 unfold zcM at h;replace h:=zeL h;obtain⟨svs,h,hev⟩:=zfw h;have hg:=hev (a:=a) (λt s _ hl=>(hr.regs t s hl).2);have hlm:∀k m,vT σ.M σ.nk k=some m->zH σ.M k=some m:=λk m h=>(zap h).2
 cases hu:zcs o.op with
 |true=>
  obtain⟨s,md,hK,hok⟩:=zgI hT ⟨E.Keep,σ.M,ρ,w,_,hlm,hr.mem,hg⟩ h;obtain⟨hK,hmd⟩:=zoG (zcL (zcK hK));obtain⟨hd,hK⟩:=k9 hK;exact⟨svs,s,md,hK,by simpa[hu] using hok,hev,hd,hmd⟩
 |false=>
  obtain⟨s,md,hK,hok⟩:=zgI hT ⟨E.Keep,σ.M,ρ,w,_,λk m h=>(by cases h),hr.mem,hg⟩ (zAN (lm':=λ_=>none) hu h);obtain⟨hK,hmd⟩:=zoG (zcL (zcK hK));obtain⟨hd,hK⟩:=k9 hK;exact⟨svs,s,md,hK,by simpa[hu] using hok,hev,hd,hmd⟩
def zll.does{all:List Oper}{o:Oper}{s:SV}(h:zll P draw all i o σ svs s md){w:World}(hr:Rel E σ ρ a w):qk P o a w (kG E.Keep σ.M ρ w σ.nk s md):=by
 refine h.ok o rfl E.Keep σ.M ρ a w (λk m hk=>?_) hr.mem (λk hk _=>hr.fresh k hk) (λ_=>hr.noKey) (h.ev λt s _ hl=>(hr.regs t s hl).2)
 split at hk
 ·exact(zap hk).2
 cases hk
def Rel.refine{w:World}(h:Rel E σ ρ a w){t:Nat}{s s':SV}(hl:z6 σ.L t=some s)(hg:∀S Pm ρ w v,G S Pm ρ w s v->G S Pm ρ w s' v):Rel E (σ.put (some t) s') ρ a w:=
 ⟨h.size,h.defers,λt' s2 hl0=>by
  have hl2:(if t=t' then some s' else z6 σ.L t')=some s2:=by rw[←zK];exact hl0
  clear hl0
  by_cases e:t=t'
  ·subst e;rw[Xe rfl]at hl2;cases hl2
   exact⟨(h.regs t s hl).1,hg _ _ _ _ _ (h.regs t s hl).2⟩
  rw[Xb e]at hl2
  exact h.regs t' s2 hl2,h.mem,h.fresh,h.stp,h.keep,h.low⟩
variable{p:Prop}
def zbV{i:Decidable p}(hp:p):∀S Pm ρ w v,G S Pm ρ w (.pr p i) v->G S Pm ρ w (.val (.bool true)) v:=λ_ _ _ _ v h=>by
 rw[h.pr_inv];simp only[hp,decide_true];exact .d _ _ (.val _)
def zaq{i:Decidable p}(hp:¬p):∀S Pm ρ w v,G S Pm ρ w (.pr p i) v->G S Pm ρ w (.val (.bool false)) v:=λ_ _ _ _ v h=>by
 rw[h.pr_inv];simp only[hp,decide_false];exact .d _ _ (.val _)
def zsX(v:Value)(want:Bool):Bool:=
 match v with
 |.bool b=>b==want
 |_=>false
def qB(all:List Oper)(σ:St)(o:Oper)(run:Bool):Prop:=
 match o.guard with
 |none=>run=true
 |some (j,want)=>∃t v,zcI all j=some t/\z6 σ.L t=some (.val v)/\run=zsX v want
def zw0(all:List Oper)(j:Nat):zcI all j=(all[j]?).bind (·.dst):=by
 induction all generalizing j with
 |nil=>simp[zcI]
 |cons o r ih=>cases j with
  |zero=>simp[zcI]
  |succ j=>simp[zcI,ih]
def zlm{all:List Oper}{o:Oper}{run:Bool}(h:qB all σ o run)(hsz:a.tmps.size=σ.nt)(hg:∀t v,(∃j want,o.guard=some (j,want)/\zcI all j=some t)->z6 σ.L t=some (.val v)->t<σ.nt/\a.tmps.getD t undef=v):Region.wanted o (yielded all.toArray a.tmps)=run:=by
 unfold qB at h;unfold Region.wanted
 split at h
 ·rename_i hn;simp[hn,h]
 rename_i j want hgd;obtain⟨t,v,h1,h2,h3⟩:=h;obtain⟨h4,h5⟩:=hg t v ⟨j,want,hgd,h1⟩ h2
 have h6:a.tmps[t]?=some v:=by
  have hlt:t<a.tmps.size:=hsz ▸ h4;simp[hlt]at h5 ⊢;exact h5
 rw[zw0]at h1;simp only[hgd,yielded];have h1':((all.toArray)[j]?).bind (·.dst)=some t:=by simpa using h1
 rw[h1'];simp only[Option.bind_some,h6,h3]
 cases v <;> first|rfl|(rename_i b;cases b <;> cases want <;> rfl)
def zfy(hT:TOK P Γ){all:List Oper}{o:Oper}{r:List Oper}{K:St->Prop}{w:World}(hr:Rel E σ ρ a w)(h:uu P Γ draw all (o::r) i σ K):∃σ' run svs s md,uu P Γ draw all r (i+1) (σ'.app o.dst s md) K/\qB all σ' o run/\
   (σ'=σ∨∃t s0 s1,z6 σ.L t=some s0/\(∀S Pm ρ w v,G S Pm ρ w s0 v->G S Pm ρ w s1 v)/\σ'=σ.put (some t) s1)/\(∀t,o.dst=some t->t<σ.nt)/\
   ((run=true/\zll P draw all i o σ' svs s md)∨(run=false/\s=.val undef/\md=.none)):=by
 have run1:∀{σ':St},Rel E σ' ρ a w->zcM P Γ draw all i o σ' (λσ=>uu P Γ draw all r (i+1) σ K)->σ'.nt=σ.nt->∃svs s md,uu P Γ draw all r (i+1) (σ'.app o.dst s md) K/\(∀t,o.dst=some t->t<σ.nt)/\zll P draw all i o σ' svs s md:=by
  intro σ' hr' h' hn;obtain⟨svs,s,md,h1,h2⟩:=zuN hT hr' h';exact⟨svs,s,md,h1,λt e=>hn ▸ h2.dst t e,h2⟩
 simp only[uu]at h
 split at h
 ·rename_i hg;obtain⟨svs,s,md,h1,h2,h3⟩:=run1 hr h rfl;exact⟨σ,true,svs,s,md,h1,by simp[qB,hg],.inl rfl,h2,.inl ⟨rfl,h3⟩⟩
 rename_i j want hg
 split at h
 ·exact h.elim
 rename_i t ht
 have gv:∀{σ':St} {v:Value},z6 σ'.L t=some (.val v)->qB all σ' o (zsX v want):=λhl=>by
  unfold qB;rw[hg];exact⟨t,_,ht,hl,rfl⟩
 have gi:∀{σ':St} {b:Bool},z6 σ'.L t=some (.val (.bool b))->qB all σ' o (b==want):=λhl=>gv hl
 have put_look:∀(s1:SV),z6 (σ.put (some t) s1).L t=some s1:=λs1=>by
  show z6 ((t,s1)::σ.L) t=some s1;rw[zK];simp
 split at h
 ·rename_i hl
  split at h
  ·obtain⟨svs,s,md,h1,h2,h3⟩:=run1 hr h rfl;exact⟨σ,_,svs,s,md,h1,gi hl,.inl rfl,h2,.inl ⟨rfl,h3⟩⟩
  obtain⟨hd,h⟩:=k9 h;exact⟨σ,_,[],_,_,h,gi hl,.inl rfl,hd,.inr ⟨rfl,rfl,rfl⟩⟩
 ·rename_i hl
  split at h
  ·obtain⟨svs,s,md,h1,h2,h3⟩:=run1 hr h rfl;exact⟨σ,_,svs,s,md,h1,gi hl,.inl rfl,h2,.inl ⟨rfl,h3⟩⟩
  obtain⟨hd,h⟩:=k9 h;exact⟨σ,_,[],_,_,h,gi hl,.inl rfl,hd,.inr ⟨rfl,rfl,rfl⟩⟩
 ·rename_i p ip hl
  by_cases hp:p
  ·have hr':=hr.refine hl (zbV hp)
   split at h
   ·obtain⟨svs,s,md,h1,h2,h3⟩:=run1 hr' (h.yes hp) rfl;exact⟨_,_,svs,s,md,h1,gi (put_look _),.inr ⟨t,_,_,hl,zbV hp,rfl⟩,h2,.inl ⟨rfl,h3⟩⟩
   obtain⟨hd,h⟩:=k9 (h.yes hp);exact⟨_,_,[],_,_,h,gi (put_look _),.inr ⟨t,_,_,hl,zbV hp,rfl⟩,hd,.inr ⟨rfl,rfl,rfl⟩⟩
  have hr':=hr.refine hl (zaq hp)
  split at h
  ·obtain⟨hd,h⟩:=k9 (h.no hp);exact⟨_,_,[],_,_,h,gi (put_look _),.inr ⟨t,_,_,hl,zaq hp,rfl⟩,hd,.inr ⟨rfl,rfl,rfl⟩⟩
  obtain⟨svs,s,md,h1,h2,h3⟩:=run1 hr' (h.no hp) rfl;exact⟨_,_,svs,s,md,h1,gi (put_look _),.inr ⟨t,_,_,hl,zaq hp,rfl⟩,h2,.inl ⟨rfl,h3⟩⟩
 ·rename_i hl;obtain⟨hd,h⟩:=k9 h;exact⟨σ,_,[],_,_,h,gv hl,.inl rfl,hd,.inr ⟨rfl,rfl,rfl⟩⟩
 exact h.elim
def Rel.wanted{E:Env}{σ:St}{ρ:ze}{a:Act}{w:World}(h:Rel E σ ρ a w){all:List Oper}{o:Oper}{run:Bool}(hg:qB all σ o run):Region.wanted o (yielded all.toArray a.tmps)=run:=
 zlm hg h.size λt _ _ hl=>⟨(h.regs t _ hl).1,(h.regs t _ hl).2.val_inv⟩
def zib{P:Program}{Γ:LS}(hT:TOK P Γ){all:List Oper}{draw:Bool}{E:Env}{Q:LC}{K:St->Prop}(hQ:∀σ ρ a w,K σ->Rel E σ ρ a w->Q .normal a w):∀{l:List Oper} {i:Nat} {σ:St} {ρ:ze} {a:Act} {w:World},Rel E σ ρ a w->uu P Γ draw all l i σ K->wpList P all.toArray Q l a w
 |[],i,σ,ρ,a,w,hr,h=>hQ σ ρ a w h hr
 |o::r,i,σ,ρ,a,w,hr,h=>by
  obtain⟨σ',run,svs,s,md,h1,hg,href,hd,hrun⟩:=zfy hT hr h
  have hr':Rel E σ' ρ a w:=by
   rcases href with rfl|⟨t,s0,s1,h2,h3,rfl⟩
   ·exact hr
   exact hr.refine h2 h3
  have hnt:σ'.nt=σ.nt:=by rcases href with rfl|⟨t,s0,s1,h2,h3,rfl⟩ <;> rfl
  unfold wpList;rw[hr'.wanted hg]
  obtain⟨rfl,hst⟩|⟨rfl,rfl,rfl⟩:=hrun
  ·simp only[if_true];refine .inl ((hst.does hr').wp λv w' ha=>?_);obtain⟨ρ',hrel⟩:=hr'.app (λt e=>hnt ▸ hd t e) ha;exact zib hT hQ hrel h1
  simp only[KC,if_false];obtain⟨ρ',hrel⟩:=hr'.app (λt e=>hnt ▸ hd t e) (ub hr'.mem);exact zib hT hQ hrel h1
end
end Go.Gs
