/- A call to which several blocks of one's own are handed over. -/
import Derived.Test.YtkngjacccoklaaaGreatDoorMA
import Derived.Test.YtkngjacccoklaaaGreatDoorMAG
set_option maxRecDepth 100000
set_option maxHeartbeats 8000000
set_option linter.all false
namespace Go.Gs
def jG.named{S Pm:Nat->Prop}{ρ:zi}{w:World}{k:Nat}{m:Mem}(h:jG S Pm ρ w k m):∃v,ρ k=some v:=by
 cases m with
 |box T cs=>obtain⟨b,vs,h1,_⟩:=h;exact⟨_,h1⟩
 |arr T enc sz xs=>obtain⟨v,cells,h1,_⟩:=h;exact⟨_,h1⟩
 |garr T sz xs=>obtain⟨v,cells,h1,_⟩:=h;exact⟨_,h1⟩
 |map es=>obtain⟨r,ents,clock,h1,_⟩:=h;exact⟨_,h1⟩
section
variable{S S' Pm Pm':Nat->Prop}{ρ ρ':zi}{w:World}{ks:List Nat}{κ n:Nat}
def zjA(hP:∀b,Pm' b->Pm b)(hρ:∀k v,k<n->ρ (rn ks κ k)=some v->ρ' k=some v):∀(s:SV) {v:Value},vH n s=true->G S Pm ρ w (zaJ ks κ s) v->G S Pm' ρ' w s v:=by
 intro s
 induction s using SV.rec (motive_2:=λcs=>∀{vs:List Value},vH.lows n cs=true->Gs S Pm ρ w (zaJ.rens ks κ cs) vs->Gs S Pm' ρ' w cs vs) with
 |val v=>intro u _ hg;exact .d _ _ (hg.val_inv ▸ .val _)
 |pr p i=>intro u _ hg;rw[hg.pr_inv];exact .d _ _ (.pr p i)
 |sl enc xs=>intro u _ hg;exact .d _ _ hg.sl_inv
 |nils=>intro u _ hg;obtain⟨a,rfl⟩:=hg.nils_inv;exact .d _ _ (.nils a)
 |anyb=>intro u _ hg;obtain⟨b,rfl⟩:=hg.anyb_inv;exact .d _ _ (.anyb b)
 |full enc xs=>intro u _ hg;obtain⟨a,rfl,hd⟩:=hg.full_inv;exact .d _ _ (.full enc xs a hd)
 |dptr cs _=>intro u _ hg;cases hg with|d _ _ h=>exact .d _ _ h
 |dfn f cs _=>intro u _ hg;cases hg with|d _ _ h=>exact .d _ _ h
 |bm f cs _=>intro u _ hg;cases hg with|d _ _ h=>exact .d _ _ h
 |op v=>intro u _ hg;cases hg with|d _ _ h=>exact .d _ _ h
 |junk=>intro u _ _;exact .d _ _ (.junk u)
 |ptr cs _=>
  intro u _ hg
  cases hg with
  |d _ _ h=>cases h
  |ptr _ b o c hb hPb hc h=>exact .ptr _ b o c hb (λhp=>hPb (hP b hp)) hc h
 |agg cs ih=>
  intro u h hg;obtain⟨vs,rfl,hvs⟩:=hg.agg_inv;have:=ih h hvs;exact .agg _ vs this.1 this.2
 |tup cs ih=>
  intro u h hg;obtain⟨vs,rfl,hvs⟩:=hg.tup_inv;have:=ih h hvs;exact .tup _ vs this.1 this.2
 |fn f cs ih=>
  intro u h hg;obtain⟨vs,rfl,hvs⟩:=hg.fn_inv;have:=ih h hvs;exact .fn _ _ vs this.1 this.2
 |ifc t s ih=>
  intro u h hg;obtain⟨v,rfl,hv⟩:=hg.ifc_inv;exact .ifc t _ v (ih h hv)
 |loc k off=>
  intro u h hg;obtain⟨b,g1,rfl⟩:=hg.loc_inv;exact .loc _ _ _ (hρ k _ (by simpa[vH] using h) g1)
 |own k=>
  intro u h hg;obtain⟨g1,g2⟩:=hg.own_inv;exact .own _ _ (hρ k _ (by simpa[vH] using h) g1) g2
 |eloc k sz i off=>
  intro u h hg;obtain⟨b,len,cap,g1,rfl⟩:=hg.eloc_inv;exact .eloc _ _ _ _ b len cap (hρ k _ (by simpa[vH] using h) g1)
 |win k sz lo m=>
  intro u h hg;obtain⟨b,len,cap,cap',g1,rfl,g2,g3⟩:=hg.win_inv;exact .win _ _ _ _ b len cap cap' (hρ k _ (by simpa[vH] using h) g1) g2 g3
 |nil=>
  rename_i vs _ hg;rw[Gs.nil_inv hg];exact .nil
 |cons c cs ih1 ih2=>
  rename_i vs h hg;simp only[vH.lows]at h
  split at h
  ·rename_i h1;obtain⟨v,vs',rfl,g1,g2⟩:=hg.cons_inv;exact .cons (ih1 h1 g1) (ih2 h g2)
  cases h
def zrR(hS:∀b,S b->S' b)(hρ:∀k v,k<n->ρ' k=some v->ρ (rn ks κ k)=some v):∀(s:SV) {v:Value},zct n s=true->G S' Pm' ρ' w s v->G S Pm ρ w (zaJ ks κ s) v:=by
 intro s
 induction s using SV.rec (motive_2:=λcs=>∀{vs:List Value},zct.outs n cs=true->Gs S' Pm' ρ' w cs vs->Gs S Pm ρ w (zaJ.rens ks κ cs) vs) with
 |val v=>intro u _ hg;exact .d _ _ (hg.val_inv ▸ .val _)
 |pr p i=>intro u _ hg;rw[hg.pr_inv];exact .d _ _ (.pr p i)
 |sl enc xs=>intro u _ hg;exact .d _ _ (hg.sl_inv.less hS)
 |nils=>intro u _ hg;obtain⟨a,rfl⟩:=hg.nils_inv;exact .d _ _ (.nils a)
 |anyb=>intro u _ hg;obtain⟨b,rfl⟩:=hg.anyb_inv;exact .d _ _ (.anyb b)
 |full enc xs=>intro u _ hg;obtain⟨a,rfl,hd⟩:=hg.full_inv;exact .d _ _ (.full enc xs a (hd.less hS))
 |dptr cs _=>intro u _ hg;cases hg with|d _ _ h=>exact .d _ _ (h.less hS)
 |dfn f cs _=>intro u _ hg;cases hg with|d _ _ h=>exact .d _ _ (h.less hS)
 |bm f cs _=>intro u _ hg;cases hg with|d _ _ h=>exact .d _ _ (h.less hS)
 |op v=>intro u _ hg;cases hg with|d _ _ h=>exact .d _ _ (h.less hS)
 |junk=>intro u _ _;exact .d _ _ (.junk u)
 |ptr cs _=>intro u h _;cases h
 |agg cs ih=>
  intro u h hg;obtain⟨vs,rfl,hvs⟩:=hg.agg_inv;have:=ih h hvs;exact .agg _ vs this.1 this.2
 |tup cs ih=>
  intro u h hg;obtain⟨vs,rfl,hvs⟩:=hg.tup_inv;have:=ih h hvs;exact .tup _ vs this.1 this.2
 |fn f cs ih=>
  intro u h hg;obtain⟨vs,rfl,hvs⟩:=hg.fn_inv;have:=ih h hvs;exact .fn _ _ vs this.1 this.2
 |ifc t s ih=>
  intro u h hg;obtain⟨v,rfl,hv⟩:=hg.ifc_inv;exact .ifc t _ v (ih h hv)
 |loc k off=>
  intro u h hg;obtain⟨b,g1,rfl⟩:=hg.loc_inv;exact .loc _ _ _ (hρ k _ (by simpa[zct] using h) g1)
 |own k=>
  intro u h hg;obtain⟨g1,g2⟩:=hg.own_inv;exact .own _ _ (hρ k _ (by simpa[zct] using h) g1) g2
 |eloc k sz i off=>
  intro u h hg;obtain⟨b,len,cap,g1,rfl⟩:=hg.eloc_inv;exact .eloc _ _ _ _ b len cap (hρ k _ (by simpa[zct] using h) g1)
 |win k sz lo m=>
  intro u h hg;obtain⟨b,len,cap,cap',g1,rfl,g2,g3⟩:=hg.win_inv;exact .win _ _ _ _ b len cap cap' (hρ k _ (by simpa[zct] using h) g1) g2 g3
 |nil=>
  rename_i vs _ hg;rw[Gs.nil_inv hg];exact .nil
 |cons c cs ih1 ih2=>
  rename_i vs h hg;simp only[zct.outs]at h
  split at h
  ·rename_i h1;obtain⟨v,vs',rfl,g1,g2⟩:=hg.cons_inv;exact .cons (ih1 h1 g1) (ih2 h g2)
  cases h
def zaQ:∀cs:List SV,(zaJ.rens ks κ cs).length=cs.length
 |[]=>rfl
 |c::cs=>by simp only[zaJ.rens,Xn,zaQ cs]
def zaR:∀(cs:List SV) (j:Nat),(zaJ.rens ks κ cs)[j]?=(cs[j]?).map (zaJ ks κ)
 |[],j=>by simp[zaJ.rens]
 |c::cs,0=>by simp[zaJ.rens]
 |c::cs,j+1=>by simpa[zaJ.rens] using zaR cs j
def za5:∀{cs:List SV},vH.lows n cs=true->∀(j:Nat) (s:SV),cs[j]?=some s->vH n s=true
 |[],_,j,s,h=>by simp at h
 |c::cs,hl,j,s,h=>by
  simp only[vH.lows]at hl
  split at hl
  ·rename_i h1
   cases j with
   |zero=>simp at h;subst h;exact h1
   |succ j=>exact za5 hl j s (by simpa using h)
  cases hl
def zjB:∀{cs:List SV},zct.outs n cs=true->∀(j:Nat) (s:SV),cs[j]?=some s->zct n s=true
 |[],_,j,s,h=>by simp at h
 |c::cs,hl,j,s,h=>by
  simp only[zct.outs]at hl
  split at hl
  ·rename_i h1
   cases j with
   |zero=>simp at h;subst h;exact h1
   |succ j=>exact zjB hl j s (by simpa using h)
  cases hl
def zuM(hP:∀b,Pm' b->Pm b)(hρ:∀k v,k<n->ρ (rn ks κ k)=some v->ρ' k=some v){j:Nat}(hj:j<n){m:Mem}(hl:lowM n m)(h:jG S Pm ρ w (rn ks κ j) (zly ks κ m)):jG S Pm' ρ' w j m:=by
 cases m with
 |box T cs=>
  obtain⟨b,vs,h1,h2,h3,h4,h5⟩:=h;refine⟨b,vs,hρ j _ hj h1,h2,h3.trans (zaQ cs),h4,λi s v hs hv=>?_⟩;exact zjA hP hρ s (za5 hl i s hs) (h5 i _ v (by rw[zaR,hs];rfl) hv)
 |arr T enc sz xs=>
  obtain⟨v,cells,h1,h2,h3,h4,h5,h6⟩:=h;exact⟨v,cells,hρ j _ hj h1,h2,h3,h4,h5,h6⟩
 |garr T sz xs=>
  obtain⟨v,cells,h1,h2,h3,h4,h5,h6⟩:=h;refine⟨v,cells,hρ j _ hj h1,by simpa using h2,by simpa using h3,h4,λx hx=>?_,λi q x s hx hs=>?_⟩
  ·have:=h5 _ (List.mem_map_of_mem hx)
   rwa [zaQ]at this
  obtain⟨u,hu,hg⟩:=h6 i q (zaJ.rens ks κ x) (zaJ ks κ s) (by rw[XD,hx];rfl) (by rw[zaR,hs];rfl);exact⟨u,hu,zjA hP hρ s (za5 (hl x (Xf hx)) q s hs) hg⟩
 |map es=>
  obtain⟨r,ents,clock,h1,h2,h3,h4⟩:=h;exact⟨r,ents,clock,hρ j _ hj h1,h2,h3,h4⟩
def zAl(hS:∀b,S b->S' b)(hρ:∀k v,k<n->ρ' k=some v->ρ (rn ks κ k)=some v){j:Nat}(hj:j<n){m:Mem}(hl:outM n m)(h:jG S' Pm' ρ' w j m):jG S Pm ρ w (rn ks κ j) (zly ks κ m):=by
 cases m with
 |box T cs=>
  obtain⟨b,vs,h1,h2,h3,h4,h5⟩:=h;refine⟨b,vs,hρ j _ hj h1,h2,h3.trans (zaQ cs).symm,h4,λi s v hs hv=>?_⟩;rw[zaR]at hs
  cases hc:cs[i]? with
  |none=>simp[hc]at hs
  |some c=>
   simp[hc]at hs;subst hs;exact zrR hS hρ c (zjB hl i c hc) (h5 i c v hc hv)
 |arr T enc sz xs=>
  obtain⟨v,cells,h1,h2,h3,h4,h5,h6⟩:=h;refine⟨v,cells,hρ j _ hj h1,h2,h3,h4,h5,λi q x s hx hs=>?_⟩;obtain⟨u,hu,hd⟩:=h6 i q x s hx hs;exact⟨u,hu,hd.less hS⟩
 |garr T sz xs=>
  obtain⟨v,cells,h1,h2,h3,h4,h5,h6⟩:=h;refine⟨v,cells,hρ j _ hj h1,by simpa using h2,by simpa using h3,h4,λx hx=>?_,λi q x s hx hs=>?_⟩
  ·obtain⟨y,hy,rfl⟩:=XP.1 hx;rw[zaQ];exact h5 y hy
  rw[XD]at hx
  cases hy:xs[i]? with
  |none=>simp[hy]at hx
  |some y=>
   simp[hy]at hx;subst hx;rw[zaR]at hs
   cases hc:y[q]? with
   |none=>simp[hc]at hs
   |some c=>
    simp[hc]at hs;subst hs;obtain⟨u,hu,hg⟩:=h6 i q y c hy hc;exact⟨u,hu,zrR hS hρ c (zjB (hl y (Xf hy)) q c hc) hg⟩
 |map es=>
  obtain⟨r,ents,clock,h1,h2,h3,h4⟩:=h;refine⟨r,ents,clock,hρ j _ hj h1,h2,h3,λi n s hi=>?_⟩;obtain⟨e,g1,g2,g3⟩:=h4 i n s hi;exact⟨e,g1,g2,g3.less hS⟩
end
section
def zdu{x:Nat×Mem}:∀{ks:List Nat} {M:List (Nat×Mem)},x∈uP M ks->x∈M
 |[],_,h=>h
 |k::_,M,h=>qC x (zdu (M:=qg M k) h)
def zbZ:∀{ks:List Nat} {M:List (Nat×Mem)},M.Pairwise (λa b=>a.1≠b.1)->(uP M ks).Pairwise λa b=>a.1≠b.1
 |[],_,h=>h
 |k::ks,M,h=>zbZ (ks:=ks) (M:=qg M k) (jg h)
def zjC{x:Nat×Mem}:∀{ks:List Nat} {M:List (Nat×Mem)},M.Pairwise (λa b=>a.1≠b.1)->x∈uP M ks->x.1∉ks
 |[],_,_,_=>by simp
 |k::r,M,hp,h=>by
  intro hk
  cases hk with
  |head=>exact v9 hp x (zdu (M:=qg M x.1) h) rfl
  |tail _ hk=>exact zjC (jg hp) h hk
def zjD{k:Nat}:∀{l:List Nat},k∈l->zrB k l=true
 |[],h=>(by cases h)
 |x::r,h=>by
  simp only[zrB]
  split
  ·rfl
  rename_i hb
  cases h with
  |head=>simp[K2]at hb
  |tail _ h=>exact zjD h
def zft:∀{l:List Nat},zbK l=true->∀(i j k:Nat),l[i]?=some k->l[j]?=some k->i=j
 |[],_,i,j,k,h,_=>by simp at h
 |x::r,hn,i,j,k,hi,hj=>by
  simp only[zbK]at hn
  split at hn
  ·cases hn
  rename_i hm
  have out:∀q:Nat,r[q]? ≠some x:=λq hq=>by
   have:=zjD (Xf hq);rw[this]at hm;cases hm
  match i,j with
  |0,0=>rfl
  |0,j+1=>simp at hi hj;subst hi;exact absurd hj (out j)
  |i+1,0=>simp at hi hj;subst hj;exact absurd hi (out i)
  |i+1,j+1=>rw[zft hn i j k (by simpa using hi) (by simpa using hj)]
def zjE{n:Nat}:∀{l:List (Nat×Mem)},zo4 n l=true->∀k m,(k,m)∈l->k<n
 |[],_,k,m,h=>(by cases h)
 |(q,y)::r,hb,k,m,h=>by
  simp only[zo4]at hb;obtain⟨h1,h2⟩:=kj hb
  cases h with
  |head=>simpa using h1
  |tail _ h=>exact zjE h2 k m h
def zpu{k:Nat}{m:Mem}:∀{l:List (Nat×Mem)},(k,m)∈l->memM k l=true
 |[],h=>(by cases h)
 |(q,y)::r,h=>by
  simp only[memM]
  split
  ·rfl
  rename_i hb
  cases h with
  |head=>simp[K2]at hb
  |tail _ h=>exact zpu h
def zic:∀{l:List (Nat×Mem)},zjj l=true->l.Pairwise λa b=>a.1≠b.1
 |[],_=>List.Pairwise.nil
 |(q,y)::r,h=>by
  simp only[zjj]at h
  split at h
  ·cases h
  rename_i hm;refine X8.2 ⟨λz hz e=>?_,zic h⟩;obtain⟨k,m⟩:=z;have e:q=k:=e;subst e;rw[zpu hz]at hm;cases hm
def zjF:∀{n:Nat} {K:Nat->Prop},zCh n K->K n
 |0,_,h=>h
 |n+1,_,h=>zjF (n:=n) h
def zf8:∀{l:List SV} {K:List SV->Prop},znu l K->K l
 |[],_,h=>h
 |c::l,K,h=>zf8 (l:=l) (K:=λr=>K (c::r)) (qy (s:=c) (K:=λc=>znu l λr=>K (c::r)) h)
def znM{m:Mem}{K:Mem->Prop}(h:znv m K):K m:=by
 cases m with
 |box T cs=>exact zf8 (K:=λcs=>K (.box T cs)) h
 |arr T enc sz xs=>exact h
 |garr T sz xs=>exact h
 |map es=>exact h
def zf9:∀{l:List (Nat×Mem)} {K:List (Nat×Mem)->Prop},ziP l K->K l
 |[],_,h=>h
 |(k,m)::l,K,h=>zf9 (l:=l) (K:=λr=>K ((k,m)::r)) (znM (m:=m) (K:=λm=>ziP l λr=>K ((k,m)::r)) (zjF (n:=k) (K:=λk=>znv m λm=>ziP l λr=>K ((k,m)::r)) h))
def zby{lm:Nat->Option Mem}{ks0:List Nat}{κ:Nat}{Mc:List (Nat×Mem)}:∀{ks:List Nat} {i:Nat},ziO lm ks0 κ Mc i ks->∀(q k:Nat),ks[q]?=some k->∃m,zS Mc (i+q)=some m/\lm k=some (zly ks0 κ m)/\lowM ks0.length m
 |[],i,_,q,k,h=>by simp at h
 |x::r,i,hg,q,k,h=>by
  cases q with
  |zero=>simp at h;subst h;exact hg.1
  |succ q=>
   have:=zby hg.2 q k (by simpa using h)
   rwa [show i+1+q=i+(q+1) by omega]at this
def jK{n:Nat}:∀{l:List (Nat×Mem)},znr n l->∀j m,(j,m)∈l->j<n/\outM n m
 |[],_,j,m,h=>(by cases h)
 |(q,y)::r,hl,j,m,h=>by
  cases h with
  |head=>exact⟨by simpa using hl.1.1,hl.1.2⟩
  |tail _ h=>exact jK hl.2 j m h
def un{ks:List Nat}{κ:Nat}:∀{l:List (Nat×Mem)} {k:Nat} {m:Mem},(k,m)∈zbt ks κ l->∃j m0,(j,m0)∈l/\k=rn ks κ j/\m=zly ks κ m0
 |[],_,_,h=>(by cases h)
 |(q,y)::r,k,m,h=>by
  cases h with
  |head=>exact⟨q,y,.head _,rfl,rfl⟩
  |tail _ h=>
   obtain⟨j,m0,h1,h2⟩:=un h;exact⟨j,m0,.tail _ h1,h2⟩
def zl2{ks:List Nat}{κ:Nat}:∀{l:List (Nat×Mem)} {j:Nat} {m:Mem},(j,m)∈l->(rn ks κ j,zly ks κ m)∈zbt ks κ l
 |(q,y)::r,j,m,h=>by
  cases h with
  |head=>exact .head _
  |tail _ h=>exact .tail _ (zl2 h)
variable{ks:List Nat}{κ:Nat}{j:Nat}
def zga{k:Nat}(h:ks[j]?=some k):rn ks κ j=k:=by unfold rn;rw[h]
def zfu(h:ks.length<=j):rn ks κ j=κ+(j-ks.length):=by unfold rn;rw[XG h]
variable{P:Program}{f:FuncId}{za:List SV}{lm:Nat->Option Mem}{ρ:zi}{vs:List Value}
def zrS{nn:Nat}{args':List SV}{Mc M':List (Nat×Mem)}{r:SV}(hcall:qx P f args' Mc r M')(ha:LEs za (zaJ.rens ks κ args'))(hl:vH.lows ks.length args'=true)(hn:zbK ks=true)(hk:uw (Nat.beq Mc.length ks.length) (uw (zo4 ks.length Mc) (zjj Mc))=true)(hM:ziO lm ks κ Mc 0 ks)(hr:zct (ks.length+nn) r=true)(hM':znr (ks.length+nn) M'){Keep:Nat->Prop}{M:List (Nat×Mem)}{w:World}(hlm:∀k m,lm k=some m->zS M k=some m)(hm:zK Keep M ρ w)(hκ:∀k,κ<=k->k<κ+nn->ρ k=none)(hg:Gs (λb=>Keep b∨Own M ρ b) (Own M ρ) ρ w za vs):
  Calls P f vs.toArray w λe w'=>∃v,e=.returned v/\kR Keep M ρ w κ (zaJ ks κ r) (.give ks (zbt ks κ M') nn) v w':=by
 obtain⟨hlen,hk⟩:=kj hk;obtain⟨hkb,hkd⟩:=kj hk;have hkd:=zic hkd;have hlen:=Xj hlen;obtain⟨n,hnl⟩:∃n,n=ks.length:=⟨_,rfl⟩;rw[←hnl]at hlen hkb hl hr hM'
 -- the callee's names
 obtain⟨ρc,hρc⟩:∃ρc:zi,∀j,ρc j=(match ks[j]? with|some k=>ρ k|none=>none):=⟨_,λ_=>rfl⟩
 have given:∀j m,(j,m)∈Mc->∃k,ks[j]?=some k/\zS Mc j=some m/\lm k=some (zly ks κ m)/\lowM n m:=λj m hj=>by
  have hjn:=zjE hkb j m hj;have hkj:=Xb (show j<ks.length by omega);obtain⟨m',h1,h2,h3⟩:=zby hM j _ hkj;rw[Ka]at h1
  have:m'=m:=by
   have h4:=zw h1
   by_cases e:(j,m')=(j,m)
   ·simpa using e
   exfalso
   have:=hkd;obtain⟨a,ha'⟩:=JA h4;obtain⟨b,hb'⟩:=JA hj;have hne:a≠b:=λe'=>by subst e';rw[ha']at hb';cases hb';exact e rfl
   rw[JQ]at this;obtain⟨al,ae⟩:=Xd.1 ha';obtain⟨bl,be⟩:=Xd.1 hb'
   rcases Nat.lt_or_gt_of_ne hne with h|h
   ·have:=this a b al bl h;rw[ae,be]at this;exact this rfl
   have:=this b a bl al h;rw[ae,be]at this;exact this rfl
  subst this;exact⟨_,hkj,h1,h2,by rw[hnl];exact h3⟩
 have hdown:∀k v,k<n->ρ (rn ks κ k)=some v->ρc k=some v:=λk v hkn hv=>by
  have hkj:=Xb (show k<ks.length by omega);rw[zga hkj]at hv;rw[hρc,hkj];exact hv
 have ownc:∀b,Own Mc ρc b->∃j k m v,(j,m)∈Mc/\ks[j]?=some k/\(k,zly ks κ m)∈M/\ρ k=some v/\qc v=some b:=by
  rintro b ⟨j,m,v,h1,h2,h3⟩
  obtain⟨k,hkj,_,hlk,_⟩:=given j m h1;rw[hρc,hkj]at h2;exact⟨j,k,m,v,h1,hkj,zw (hlm k _ hlk),h2,h3⟩
 have ownsub:∀b,Own Mc ρc b->Own M ρ b:=λb hb=>by
  obtain⟨j,k,m,v,_,_,h1,h2,h3⟩:=ownc b hb;exact⟨k,_,v,h1,h2,h3⟩
 obtain⟨R,hR⟩:∃R,R=uP M ks:=⟨_,rfl⟩;have memR:∀x,x∈R->x∈M/\x.1∉ks:=λx hx=>by subst hR;exact⟨zdu hx,zjC hm.keys hx⟩
 obtain⟨Kp,hKp⟩:∃Kp:Nat->Prop,∀b,Kp b↔(Keep b∨Own R ρ b):=⟨_,λ_=>K7⟩;have ownR:∀b,Own R ρ b->Own M ρ b:=λb ⟨k,m,v,h1,h2,h3⟩=>⟨k,m,v,(memR _ h1).1,h2,h3⟩
 have split:∀b,Keep b∨Own M ρ b->Kp b∨Own Mc ρc b:=by
  rintro b (hb|⟨k,m,v,h1,h2,h3⟩)
  ·exact .inl ((hKp b).2 (.inl hb))
  by_cases hks:k∈ks
  ·obtain⟨j,hj⟩:=JA hks;obtain⟨m',g1,g2,_⟩:=zby hM j k hj;rw[Ka]at g1;exact .inr ⟨j,m',v,zw g1,by rw[hρc,hj];exact h2,h3⟩
  refine .inl ((hKp b).2 (.inr ⟨k,m,v,?_,h2,h3⟩));subst hR
  have hin:∀{ks:List Nat} {M:List (Nat×Mem)},(k,m)∈M->k∉ks->(k,m)∈uP M ks:=by
   intro ks
   induction ks with
   |nil=>intro M h _;exact h
   |cons q r ih=>
    intro M h hq;refine ih (M:=qg M q) ?_ (λe=>hq (.tail _ e));have hne:k≠q:=λe=>hq (e ▸ .head _)
    clear ih hq
    induction M with
    |nil=>cases h
    |cons x xs ihx=>
     obtain⟨a,y⟩:=x;simp only[qg]
     split
     ·rename_i hb;have:=Xj hb;subst this
      cases h with
      |head=>exact absurd rfl hne
      |tail _ h=>exact h
     cases h with
     |head=>exact .head _
     |tail _ h=>exact .tail _ (ihx h)
  exact hin h1 hks
 have unsplit:∀b,Kp b∨Own Mc ρc b->Keep b∨Own M ρ b:=λb hb=>hb.elim (λh=>((hKp b).1 h).imp id (ownR b)) λh=>.inr (ownsub b h)
 have apartR:∀b,Kp b->¬Own Mc ρc b:=λb hb ho=>by
  obtain⟨j,k,m,v,_,hkj,h1,h2,h3⟩:=ownc b ho
  rcases(hKp b).1 hb with hb|⟨k',m',v',g1,g2,g3⟩
  ·exact(hm.old b ⟨k,_,v,h1,h2,h3⟩).2 hb
  have hne:k≠k':=λe=>(memR _ g1).2 (e ▸ Xf hkj)
  exact hm.apart k _ k' m' v v' b h1 (memR _ g1).1 hne h2 g2 h3 g3
 have hkp:∀b,Kp b->b<w.heap.size:=λb hb=>((hKp b).1 hb).elim (hm.kp b) λh=>(hm.old b (ownR b h)).1
 have hmc:zK Kp Mc ρc w:=by
  refine⟨λj m hj=>?_,hkd,λj m j' m' v v' b h1 h2 hne g1 g2 g3 g4=>?_,λb hb=>⟨(hm.old b (ownsub b hb)).1,λh=>apartR b h hb⟩,hkp,λg v h=>⟨λho=>(hm.gl g v h).1 (ownsub g ho),hm.glc h⟩⟩
  ·obtain⟨k,hkj,_,hlk,hlow⟩:=given j m hj;have hmem:=hm.rel k _ (zw (hlm k _ hlk))
   have hmem2:jG (λb=>Kp b∨Own Mc ρc b) (Own M ρ) ρ w (rn ks κ j) (zly ks κ m):=by
    rw[zga hkj];have hS:(λb=>Kp b∨Own Mc ρc b)=λb=>Keep b∨Own M ρ b:=funext λb=>propext ⟨unsplit b,split b⟩
    rw[hS];exact hmem
   exact zuM ownsub hdown (zjE hkb j m hj) hlow hmem2
  obtain⟨k,hkj,_,hlk,_⟩:=given j m h1;obtain⟨k',hkj',_,hlk',_⟩:=given j' m' h2;rw[hρc,hkj]at g1;rw[hρc,hkj']at g2;exact hm.apart k _ k' _ v v' b (zw (hlm k _ hlk)) (zw (hlm k' _ hlk')) (λe=>hne (zft hn j j' k hkj (e ▸ hkj'))) g1 g2 g3 g4
 have hargs:Gs (λb=>Kp b∨Own Mc ρc b) (Own Mc ρc) ρc w args' vs:=by
  have hS:(λb=>Kp b∨Own Mc ρc b)=λb=>Keep b∨Own M ρ b:=funext λb=>propext ⟨unsplit b,split b⟩
  rw[hS]
  have h1:Gs (λb=>Keep b∨Own M ρ b) (Own M ρ) ρ w (zaJ.rens ks κ args') vs:=by
   clear hl;generalize zaJ.rens ks κ args'=bs at ha
   induction ha generalizing vs with
   |nil=>exact hg
   |cons h t ih=>
    obtain⟨v,vs',rfl,g1,g2⟩:=hg.cons_inv;exact .cons (h _ _ _ _ _ g1) (ih g2)
  refine⟨h1.1.trans (zaQ args'),λj s v hs hv=>?_⟩;exact zjA ownsub hdown s (za5 hl j s hs) (h1.2 j _ v (by rw[zaR,hs];rfl) hv)
 refine(hcall.2 Kp ρc w vs hkp hmc (λk hk=>?_) hargs).mono ?_
 ·rw[hρc,XG oM]
 rintro e w' ⟨v,ρ',rfl,hs,hm',hgr⟩
 refine⟨v,rfl,?_⟩
 -- the caller's names
 obtain⟨ρ2,hρ2⟩:∃ρ2:zi,∀k,ρ2 k=if κ<=k/\k<κ+nn then ρ' (n+(k-κ)) else ρ k:=⟨_,λ_=>rfl⟩
 have named:∀j k,ks[j]?=some k->∃v,ρ k=some v/\ρ' j=some v:=λj k hj=>by
  obtain⟨m',g1,g2,_⟩:=zby hM j k hj;obtain⟨v,hv⟩:=(hm.rel k _ (zw (hlm k _ g2))).named;exact⟨v,hv,hs.rho j v (by rw[hρc,hj];exact hv)⟩
 have hup:∀j v,j<n+nn->ρ' j=some v->ρ2 (rn ks κ j)=some v:=λj v hj hv=>by
  by_cases hjn:j<n
  ·have hkj:=Xb (show j<ks.length by omega);obtain⟨v1,h1,h2⟩:=named j _ hkj;rw[hv]at h2;cases h2
   rw[zga hkj,hρ2,Xc,h1]
   rintro⟨h3,h4⟩
   rw[hκ _ h3 h4]at h1;cases h1
  rw[zfu oM,hρ2,Xe oM];rw[←hnl,show n+(κ+(j-n)-κ)=j by omega];exact hv
 have hrho:∀k v,ρ k=some v->ρ2 k=some v:=λk v hv=>by
  rw[hρ2,Xc,hv]
  rintro⟨h3,h4⟩
  rw[hκ _ h3 h4]at hv;cases hv
 have back:∀j v,j<n+nn->ρ2 (rn ks κ j)=some v->ρ' j=some v:=λj v hj hv=>by
  by_cases hjn:j<n
  ·have hkj:=Xb (show j<ks.length by omega);obtain⟨v1,h1,h2⟩:=named j _ hkj;have:=hrho _ _ h1;rw[zga hkj,this]at hv;cases hv
   exact h2
  rw[zfu oM,hρ2,Xe oM,←hnl,show n+(κ+(j-n)-κ)=j by omega]at hv;exact hv
 have nameR:∀k m,(k,m)∈R->∃v,ρ k=some v/\ρ2 k=some v:=λk m hk=>by
  obtain⟨v,hv⟩:=(hm.rel k m (memR _ hk).1).named;exact⟨v,hv,hrho k v hv⟩
 have ownNew:∀b,Own (zbt ks κ M'++R) ρ2 b↔(Own M' ρ' b∨Own R ρ b):=λb=>by
  constructor
  ·rintro⟨k,m,v1,h1,h2,h3⟩
   rcases Xs.1 h1 with h1|h1
   ·obtain⟨j,m0,g1,rfl,_⟩:=un h1;exact .inl ⟨j,m0,v1,g1,back j v1 (jK hM' j m0 g1).1 h2,h3⟩
   obtain⟨v2,g1,g2⟩:=nameR k m h1;rw[h2]at g2;cases g2
   exact .inr ⟨k,m,v1,h1,g1,h3⟩
  rintro(⟨j,m,v1,h1,h2,h3⟩|⟨k,m,v1,h1,h2,h3⟩)
  ·exact⟨_,_,v1,Qg _ (zl2 h1),hup j v1 (jK hM' j m h1).1 h2,h3⟩
  exact⟨k,m,v1,Qv _ h1,hrho k v1 h2,h3⟩
 have hset:∀b,Keep b∨Own (zbt ks κ M'++R) ρ2 b->Kp b∨Own M' ρ' b:=λb hb=>by
  rcases hb with hb|hb
  ·exact .inl ((hKp b).2 (.inl hb))
  rcases(ownNew b).1 hb with h|h
  ·exact .inr h
  exact .inl ((hKp b).2 (.inr h))
 have hst:Stp (Own M ρ) (Own (zbt ks κ M'++R) ρ2) ρ ρ2 w w':=by
  refine⟨hs.os,hs.tape,hs.output,hs.size,λb hb hnb=>hs.block b hb λho=>hnb (ownsub b ho),λb hb=>?_,hrho⟩
  rcases(ownNew b).1 hb with h|h
  ·exact(hs.own b h).imp (ownsub b) id
  exact .inl (ownR b h)
 have keyNew:∀k m,(k,m)∈zbt ks κ M'->k∉(R.map (·.1)):=λk m hk hin=>by
  obtain⟨j,m0,g1,rfl,_⟩:=un hk;obtain⟨⟨k2,m2⟩,h1,h2⟩:=XP.1 hin;have h2:k2=rn ks κ j:=h2
  by_cases hjn:j<n
  ·have hkj:=Xb (show j<ks.length by omega);rw[zga hkj]at h2;exact(memR _ h1).2 (h2 ▸ Xf hkj)
  have:=(jK hM' j m0 g1).1;rw[zfu oM]at h2;obtain⟨v1,hv1,_⟩:=nameR k2 m2 h1;rw[hκ k2 oM oM]at hv1;cases hv1
 have rninj:∀j j',j<n+nn->j'<n+nn->rn ks κ j=rn ks κ j'->j=j':=λj j' hj hj' he=>by
  by_cases h1:j<n <;> by_cases h2:j'<n
  ·have k1:=Xb (show j<ks.length by omega);have k2:=Xb (show j'<ks.length by omega);rw[zga k1,zga k2]at he;exact zft hn j j' _ k1 (by rw[k2,he])
  ·have k1:=Xb (show j<ks.length by omega);obtain⟨v1,hv1,_⟩:=named j _ k1;rw[zga k1,zfu oM]at he;rw[hκ _ oM oM]at hv1;cases hv1
  ·have k2:=Xb (show j'<ks.length by omega);obtain⟨v1,hv1,_⟩:=named j' _ k2;rw[zga k2,zfu oM]at he;rw[hκ _ oM oM]at hv1;cases hv1
  rw[zfu oM,zfu oM]at he;omega
 have hpw:(zbt ks κ M'++R).Pairwise λa b=>a.1≠b.1:=by
  rw[List.pairwise_append];refine⟨?_,by subst hR;exact zbZ hm.keys,λx hx y hy e=>keyNew x.1 x.2 hx (e ▸ List.mem_map_of_mem hy)⟩
  have:∀{l:List (Nat×Mem)},l.Pairwise (λa b=>a.1≠b.1)->(∀j m,(j,m)∈l->j<n+nn)->(zbt ks κ l).Pairwise λa b=>a.1≠b.1:=by
   intro l
   induction l with
   |nil=>intro _ _;exact List.Pairwise.nil
   |cons x xs ih=>
    intro hp hlt;obtain⟨j,m⟩:=x;rw[X8]at hp;refine X8.2 ⟨λy hy e=>?_,ih hp.2 λj m h=>hlt j m (.tail _ h)⟩;obtain⟨k,m'⟩:=y;obtain⟨j',m0,g1,g2,_⟩:=un hy;have e:rn ks κ j=k:=e;rw[g2]at e;exact hp.1 (j',m0) g1 (rninj j j' (hlt j m (.head _)) (hlt j' m0 (.tail _ g1)) e)
  exact this hm'.keys λj m h=>(jK hM' j m h).1
 have hmem:zK Keep (zbt ks κ M'++R) ρ2 w':=by
  refine⟨λk m hk=>?_,hpw,λk m k' m' v1 v2 b h1 h2 hne g1 g2 g3 g4=>?_,λb hb=>?_,λb hb=>Xw (hm.kp b hb) hs.size,λg v h=>⟨λho=>((ownNew g).1 ho).elim (hm'.gl g v h).1 λh'=>(hm.gl g v h).1 (ownR g h'),hm'.glc h⟩⟩
  ·rcases Xs.1 hk with hk|hk
   ·obtain⟨j,m0,h1,rfl,rfl⟩:=un hk;exact zAl hset hup (jK hM' j m0 h1).1 (jK hM' j m0 h1).2 (hm'.rel j m0 h1)
   obtain⟨v1,h1,h2⟩:=nameR k m hk;refine jG.keep hst (h2.trans h1.symm) (λv2 b g1 g2=>?_) (hm.rel k m (memR _ hk).1);have ho:Own R ρ b:=⟨k,m,v2,hk,g1,g2⟩;exact hs.block b (hm.old b (ownR b ho)).1 λhc=>apartR b ((hKp b).2 (.inr ho)) hc
  ·rcases Xs.1 h1 with h1|h1 <;> rcases Xs.1 h2 with h2|h2
   ·obtain⟨j,m0,q1,rfl,_⟩:=un h1;obtain⟨j',m0',q2,rfl,_⟩:=un h2;exact hm'.apart j m0 j' m0' v1 v2 b q1 q2 (λe=>hne (by rw[e])) (back j v1 (jK hM' j m0 q1).1 g1) (back j' v2 (jK hM' j' m0' q2).1 g2) g3 g4
   ·obtain⟨j,m0,q1,rfl,_⟩:=un h1;obtain⟨v3,e1,e2⟩:=nameR k' m' h2;rw[g2]at e2;cases e2
    exact(hm'.old b ⟨j,m0,v1,q1,back j v1 (jK hM' j m0 q1).1 g1,g3⟩).2 ((hKp b).2 (.inr ⟨k',m',v2,h2,e1,g4⟩))
   ·obtain⟨j,m0,q1,rfl,_⟩:=un h2;obtain⟨v3,e1,e2⟩:=nameR k m h1;rw[g1]at e2;cases e2
    exact(hm'.old b ⟨j,m0,v2,q1,back j v2 (jK hM' j m0 q1).1 g2,g4⟩).2 ((hKp b).2 (.inr ⟨k,m,v1,h1,e1,g3⟩))
   obtain⟨v3,e1,e2⟩:=nameR k m h1;rw[g1]at e2;cases e2
   obtain⟨v4,e3,e4⟩:=nameR k' m' h2;rw[g2]at e4;cases e4
   exact hm.apart k m k' m' v1 v2 b (memR _ h1).1 (memR _ h2).1 hne e1 e3 g3 g4
  rcases(ownNew b).1 hb with h|h
  ·exact⟨(hm'.old b h).1,λhkb=>(hm'.old b h).2 ((hKp b).2 (.inl hkb))⟩
  exact⟨Xw (hm.old b (ownR b h)).1 hs.size,(hm.old b (ownR b h)).2⟩
 have e0:zcp M κ (.give ks (zbt ks κ M') nn)=zbt ks κ M'++R:=by subst hR;rfl
 refine⟨ρ2,?_,?_,?_,λk hk=>?_⟩
 ·rw[e0];exact hst
 ·rw[e0];exact hmem
 ·rw[e0];exact zrR hset hup r hr hgr
 have hk:k<κ∨κ+nn<=k:=hk;rw[hρ2,Xc oM]
def zK.same{Keep:Nat->Prop}{M:List (Nat×Mem)}{ρ:zi}{w w':World}(hm:zK Keep M ρ w)(hos:w'.os=w.os)(htape:w'.tape=w.tape)(hout:kQ w w')(hsize:w.heap.size<=w'.heap.size)(hblock:∀b,b<w.heap.size->w'.heap[b]?=w.heap[b]?):Stp (Own M ρ) (Own M ρ) ρ ρ w w'/\zK Keep M ρ w':=by
 have hs:Stp (Own M ρ) (Own M ρ) ρ ρ w w':=⟨hos,htape,hout,hsize,λb hb _=>hblock b hb,λb hb=>.inl hb,λ_ _ h=>h⟩
 exact⟨hs,λk m h=>(hm.rel k m h).keep hs rfl (λv b h1 h2=>hblock b (hm.old b ⟨k,m,v,h,h1,h2⟩).1),hm.keys,hm.apart,
  λb hb=>⟨Xw (hm.old b hb).1 hsize,(hm.old b hb).2⟩,λb hb=>Xw (hm.kp b hb) hsize,hm.glS hs⟩
variable{Γ:List (TypeId×TI)}{x:Operand}{K:SV->MD->Prop}
def zrT{e:TypeId}{s:SV}(h:boxV Γ e s κ K):∃r md,K r md/\yx P (.box e x) [s] lm κ r md:=by
 unfold boxV at h;replace h:=zh h;obtain⟨hc,h⟩:=h;have old:K (.loc κ 0) (.push (.box e (kO s)))->∃r md,K r md/\yx P (.box e x) [s] lm κ r md:=λh=>zuJ (by unfold zN;rw[hc];exact h)
 split at h
 ·split at h
  ·split at h
   ·rename_i hf
    rcases h with h|h
    ·exact old h
    refine⟨_,_,h,λo ho Keep M ρ a w _ hm hκ hκM hgs=>?_⟩;obtain⟨h1,h2⟩:=vJ hc (Gs.head hgs)
    have hrun:(execOp a.eval o).run P w=.ok (.value (.pointer (some ⟨w.heap.size,0,none⟩))) (w.alloc (.cells (a.eval x).cells e)):=by
     simp[execOp,ho,Instr.box,newVar,newRow]
    refine qw.value hrun ?_;obtain⟨hs,hm'⟩:=hm.same (w':=w.alloc (.cells (a.eval x).cells e)) rfl rfl (.cells _ _ _) (by simp) (λb hb=>heap_alloc_old w _ b hb);refine⟨ρ,hs,hm',.d _ _ ?_,λ_ _=>rfl⟩;have hnew:=heap_alloc_new w (.cells (a.eval x).cells e);have hn:∀b,b<w.heap.size->True:=λ_ _=>trivial
    refine .dptr _ w.heap.size 0 (λj=>((a.eval x).cells.toList[j]?).getD undef) (by simp) (λhb=>?_) (λj hj=>?_) (λj s' hs'=>?_)
    ·rcases hb with hb|hb
     ·have:=hm.kp _ hb;omega
     have:=(hm.old _ hb).1;omega
    ·have hj':j<(a.eval x).cells.toList.length:=by rw[h1.1];exact hj
     have hj2:j<(a.eval x).cells.size:=by simpa using hj'
     refine⟨?_,?_⟩
     ·show(w.alloc (.cells (a.eval x).cells e)).cell? ⟨w.heap.size,0+j,none⟩=_;rw[Ka];simp only[World.cell?,hnew];simp[hj2]
     rw[Xb hj',Qq];exact h2 _ (KJ hj')
    have hj:j<(kO s).length:=(Xd.1 hs').1;have hj':j<(a.eval x).cells.toList.length:=by rw[h1.1];exact hj
    rw[Xb hj',Qq];exact(y8 (yM hf j s' hs') (h1.2 j s' _ hs' (Xb hj'))).stp hs
   exact old h
  exact old h
 exact old h
variable{svs:List SV}
def znN(hT:TOK P Γ){t:TypeId}{lo hi mx:Option Operand}(h:znw Γ t lo hi mx svs lm κ K):∃r md,K r md/\yx P (.slice t x lo hi mx) svs lm κ r md:=by
 unfold znw at h
 split at h
 ·rename_i cs;unfold zlR at h;replace h:=zh h;obtain⟨hn,h⟩:=h;obtain⟨n1,hn⟩:=kj hn;obtain⟨n2,n3⟩:=kj hn;have lo0:lo=none:=by cases lo with|none=>rfl|some _=>cases n1
  have hi0:hi=none:=by cases hi with|none=>rfl|some _=>cases n2
  have mx0:mx=none:=by cases mx with|none=>rfl|some _=>cases n3
  subst lo0;subst hi0;subst mx0;replace h:=zB h;obtain⟨i,hi',h⟩:=h;have hk:=(hT t i hi').kind
  split at h
  ·rename_i n e hkind;rw[hkind]at hk;have hk:P.underlying t=some (.array n e):=hk;have helem:P.elem t=e:=by simp[Program.elem,hk]
   have hlen:P.arrayLen t=n:=by simp[Program.arrayLen,hk]
   have hk':P.underlying t=some (.array (P.arrayLen t) (P.elem t)):=by rw[helem,hlen];exact hk
   replace h:=zB h;obtain⟨j,hj,h⟩:=h;have hsz:=(hT e j hj).size;obtain⟨α,enc,xs,hch,h⟩:=h;obtain⟨e1,e2,e3⟩:=h.ob;refine⟨_,_,h.go,.pure λo ho S Pm ρ a w hgs=>?_⟩;obtain⟨b,o',c,hx,hb,hS,hc,hd⟩:=(Gs.head hgs).dptr_inv
   have hrun:(execOp a.eval o).run P w=.ok (.value (.slice (some ⟨b,o',none⟩) xs.length n)) w:=by
    simp[execOp,ho,hx,run_sliceAt_array_all (ht:=hk'),slicedAt,hsz,helem,hlen,e1];intro _;simp[Addr.add]
   refine⟨_,hrun,.d _ _ ?_⟩;have hl:=zej e3;refine .sl enc xs j.sz b o' n (λp q=>c (p*j.sz+q)) hb hS oM oM e3 (λp q hp hq=>?_) (λp q x s hx hs=>?_)
   ·have hlt:p*j.sz+q<cs.length:=by
     rw[←hch,hl];have:=Xu j.sz (X4 hp);rw[X2]at this;omega
    have:=hc _ hlt
    rwa [KB]
   have hq:q<j.sz:=by
    have:=(Xd.1 hs).1;rw[e3 x (Xf hx)]at this;exact this
   have:=zei e3 p q x hx hq;rw[hch]at this;exact hd _ s (this.trans hs)
  exact h.elim
 exact zpi hT h
def jG.move{S S' Pm Pm':Nat->Prop}{ρ ρ':zi}{w:World}{k k':Nat}{m:Mem}(hk:ρ' k'=ρ k)(hf:zfX m)(hd:∀s v,(j9 s=true∨True)->D S w s v->D S' w s v∨False)(h:jG S Pm ρ w k m):jG S' Pm' ρ' w k' m:=by
 cases m with
 |box T cs=>
  obtain⟨b,vs,h1,h2,h3,h4,h5⟩:=h;exact⟨b,vs,hk.trans h1,h2,h3,h4,λj s v hs hv=>.d _ _ ((hd s v (.inr trivial) (y8 (yM hf j s hs) (h5 j s v hs hv))).resolve_right id)⟩
 |arr T enc sz xs=>
  obtain⟨v,cells,h1,h2,h3,h4,h5,h6⟩:=h;refine⟨v,cells,hk.trans h1,h2,h3,h4,h5,λi j x s hx hs=>?_⟩;obtain⟨u,hu,hd'⟩:=h6 i j x s hx hs;exact⟨u,hu,(hd s u (.inr trivial) hd').resolve_right id⟩
 |garr T sz xs=>exact hf.elim
 |map es=>
  obtain⟨r,ents,clock,h1,h2,h3,h4⟩:=h;refine⟨r,ents,clock,hk.trans h1,h2,h3,λi n s hi=>?_⟩;obtain⟨e,g1,g2,g3⟩:=h4 i n s hi;exact⟨e,g1,g2,(hd s _ (.inr trivial) g3).resolve_right id⟩
variable{S:Nat->Prop}{S':Nat->Prop}{Pm:Nat->Prop}{Pm':Nat->Prop}{ρ':zi}{m:Mem}
def jG.scalar{w:World}{k k':Nat}(hk:ρ' k'=ρ k)(hf:ziN m)(h:jG S Pm ρ w k m):jG S' Pm' ρ' w k' m:=by
 cases m with
 |box T cs=>
  obtain⟨b,vs,h1,h2,h3,h4,h5⟩:=h;exact⟨b,vs,hk.trans h1,h2,h3,h4,λj s v hs hv=>.d _ _ (vK (uS hf j s hs) (h5 j s v hs hv))⟩
 |arr T enc sz xs=>
  obtain⟨v,cells,h1,h2,h3,h4,h5,h6⟩:=h;refine⟨v,cells,hk.trans h1,h2,h3,h4,h5,λi j x s hx hs=>?_⟩;obtain⟨u,hu,hd'⟩:=h6 i j x s hx hs;exact⟨u,hu,vK (Pm:=Pm) (ρ:=ρ) (uS (hf x (Xf hx)) j s hs) (.d _ _ hd')⟩
 |garr T sz xs=>exact hf.elim
 |map es=>
  obtain⟨r,ents,clock,h1,h2,h3,h4⟩:=h;refine⟨r,ents,clock,hk.trans h1,h2,h3,λi n s hi=>?_⟩;obtain⟨e,g1,g2,g3⟩:=h4 i n s hi;exact⟨e,g1,g2,vK (Pm:=Pm) (ρ:=ρ) (uS hf i s (by simp[hi])) (.d _ _ g3)⟩
def one(v:Value):zi:=λk=>if k=0 then some v else none
def zbz{v:Value}{b:Nat}:Own [(0,m)] (one v) b↔qc v=some b:=by
 constructor
 ·rintro⟨k,m',v',h,h1,h2⟩
  cases h with
  |head=>simp[one]at h1;subst h1;exact h2
  |tail _ h=>cases h
 intro h;exact⟨0,m,v,.head _,by simp[one],h⟩
def uG{v:Value}:one v 0=some v:=rfl
variable{cs:List SV}
def zuN{k:Nat}(h:zlP k cs=true):∀k' off,.loc k' off∈cs->k'≠k:=by
 induction cs with
 |nil=>intro _ _ h;cases h
 |cons c cs ih=>
  intro k' off hm e;subst e
  cases hm with
  |head=>simp[zlP,K2]at h
  |tail _ hm=>
   refine ih ?_ k' off hm rfl
   cases c <;> simp only[zlP]at h <;> (try split at h) <;> simp_all
def zpv(h:zcs lm cs=true):∀k off,.loc k off∈cs->∃m,lm k=some m:=by
 induction cs with
 |nil=>intro _ _ h;cases h
 |cons x xs ih=>
  intro k off hm;simp only[zcs]at h
  split at h
  ·rename_i hx
   cases hm with
   |head=>
    simp only[zcr]at hx
    cases hq:lm k with
    |none=>simp[hq]at hx
    |some m=>exact⟨m,rfl⟩
   |tail _ hm=>exact ih h k off hm
  cases h
def zth{lm:Nat->Option Mem}{Keep:Nat->Prop}{M:List (Nat×Mem)}{ρ:zi}{w:World}(hlm:∀k m,lm k=some m->(k,m)∈M)(hm:zK Keep M ρ w){k:Nat}{m:Mem}{v0:Value}(hkm:lm k=some m)(hv0:ρ k=some v0){S' Pm':Nat->Prop}(hsub:∀b,S' b->Keep b∨Own M ρ b)(hPm:∀b,Pm' b->qc v0=some b):
  ∀{cs:List SV} {vs:List Value},Gs (λb=>Keep b∨Own M ρ b) (Own M ρ) ρ w cs vs->zbJ lm k cs=true->Gs S' Pm' (one v0) w (zwv lm k cs) vs
 |[],vs,hg,_=>by rw[hg.nil_inv];exact .nil
 |c::cs,vs,hg,hc=>by
  obtain⟨v,vs',rfl,h1,h2⟩:=hg.cons_inv;have hP:∀b,¬Own M ρ b->¬Pm' b:=λb hn hp=>hn ⟨k,m,v0,hlm k m hkm,hv0,hPm b hp⟩
  have hP2:∀k' b,(∃m',lm k'=some m')->k'≠k->ρ k'=some (.pointer (some ⟨b,0,none⟩))->¬Pm' b:=λk' b ⟨m',hm'⟩ hne hρ hp=>
   hm.apart k' m' k m _ v0 b (hlm k' m' hm') (hlm k m hkm) hne hρ hv0 rfl (hPm b hp)
  have key:G S' Pm' (one v0) w (give lm k c) v/\zbJ lm k cs=true:=by
   unfold zbJ at hc
   split at hc
   ·rename_i heq;cases heq
   ·rename_i k' off r heq
    cases heq
    split at hc
    ·rename_i hb;have:=Xj hb;subst this;refine⟨?_,hc⟩;simp only[give,K2];obtain⟨b,hρ,rfl⟩:=h1.loc_inv;rw[hv0]at hρ;cases hρ
     exact .loc 0 off b uG
    rename_i hb;obtain⟨hc1,hc2⟩:=kj hc;refine⟨?_,hc2⟩;simp only[give,hb]
    have hlk:∃m',lm k'=some m':=by
     simp only[uv,zcr]at hc1
     cases hq:lm k' with
     |none=>simp[hq]at hc1
     |some m'=>exact⟨m',rfl⟩
    exact zjx hlm hm hsub h1 (.inl hc1) hP (λk2 off2 b he hρ=>by
     rcases he with he|⟨_,_,he,_⟩
     ·cases he;exact hP2 _ b hlk (KG hb) hρ
     cases he)
   ·rename_i k' r heq
    cases heq
    split at hc
    ·rename_i hb;have:=Xj hb;subst this;refine⟨?_,hc⟩;simp only[give,K2];obtain⟨hρ,h3⟩:=h1.own_inv;rw[hv0]at hρ;cases hρ
     exact .own 0 _ uG h3
    cases hc
   ·rename_i k' sz lo n r heq
    cases heq
    split at hc
    ·rename_i hb;have:=Xj hb;subst this;refine⟨?_,hc⟩;simp only[give,K2];obtain⟨b,len,cap,cap',hρ,rfl,h3,h4⟩:=h1.win_inv;rw[hv0]at hρ;cases hρ
     exact .win 0 sz lo n b len cap cap' uG h3 h4
    cases hc
   ·rename_i f caps r heq
    cases heq
    obtain⟨hc0,hc⟩:=kj hc;obtain⟨hc1,hc2⟩:=kj hc;refine⟨?_,hc2⟩;simp only[give];refine zjx hlm hm hsub h1 (.inl hc1) hP (λk2 off2 b he hρ=>?_)
    rcases he with he|⟨f',cs',he,hmem⟩
    ·cases he
    cases he
    refine hP2 k2 b ?_ (zuN hc0 k2 off2 hmem) hρ;simp only[uv]at hc1
    split at hc1
    ·rename_i hcl;exact zpv hcl k2 off2 hmem
    cases hc1
   rename_i s r hn1 hn2 hn2' hn3 heq
   cases heq
   obtain⟨hc1,hc2⟩:=kj hc;refine⟨?_,hc2⟩
   have hgv:give lm k c=zjh lm c:=by
    cases c <;> first|rfl|exact absurd rfl (hn1 _ _)|exact absurd rfl (hn2 _)|exact absurd rfl (hn2' _ _ _ _)
   rw[hgv]
   exact zjx hlm hm hsub h1 (.inl hc1) hP (λk2 off2 b he hρ=>by
    rcases he with rfl|⟨f',cs',rfl,_⟩
    ·exact absurd rfl (hn1 _ _)
    exact absurd rfl (hn3 _ _))
  exact .cons key.1 (zth hlm hm hkm hv0 hsub hPm h2 key.2)
def jG.name{w:World}{k:Nat}(h:jG S Pm ρ w k m):∃v,ρ k=some v:=by
 cases m with
 |box T cs=>obtain⟨b,vs,h1,_⟩:=h;exact⟨_,h1⟩
 |arr T enc sz xs=>obtain⟨v,cells,h1,_⟩:=h;exact⟨_,h1⟩
 |garr T sz xs=>obtain⟨v,cells,h1,_⟩:=h;exact⟨_,h1⟩
 |map es=>obtain⟨r,ents,clock,h1,_⟩:=h;exact⟨_,h1⟩
def mv_g{w:World}{v0:Value}(h0:ρ' 0=some v0)(hκ:ρ κ=some v0):∀(r:SV) {v:Value},za1 r=true->G S' Pm' ρ' w r v->G S Pm ρ w (mv κ r) v:=by
 intro r
 induction r using SV.rec (motive_2:=λcs=>∀{vs:List Value},za1.mvOKs cs=true->Gs S' Pm' ρ' w cs vs->Gs S Pm ρ w (mv.mvs κ cs) vs) with
 |val v=>intro u _ hg;exact .d _ _ (hg.val_inv ▸ .val _)
 |pr p i=>intro u _ hg;rw[hg.pr_inv];exact .d _ _ (.pr p i)
 |agg cs ih=>
  intro u h hg;simp only[za1]at h;obtain⟨vs,rfl,hvs⟩:=hg.agg_inv;have:=ih h hvs;simp only[mv];exact .agg _ vs this.1 this.2
 |tup cs ih=>
  intro u h hg;simp only[za1]at h;obtain⟨vs,rfl,hvs⟩:=hg.tup_inv;have:=ih h hvs;simp only[mv];exact .tup _ vs this.1 this.2
 |own k=>
  intro u h hg;simp only[za1]at h;have:=Xj h;subst this;obtain⟨g1,g2⟩:=hg.own_inv;rw[h0]at g1;cases g1
  simp only[mv];exact .own _ _ hκ g2
 |sl _ _=>intro u h _;simp[za1]at h
 |ptr _ _=>intro u h _;simp[za1]at h
 |loc k off=>
  intro u h hg;simp only[za1]at h;have:=Xj h;subst this;obtain⟨b,g1,rfl⟩:=hg.loc_inv;rw[h0]at g1;cases g1
  simp only[mv];exact .loc _ _ _ hκ
 |eloc _ _ _ _=>intro u h _;simp[za1]at h
 |win _ _ _ _=>intro u h _;simp[za1]at h
 |fn f cs ih=>
  intro u h hg;simp only[za1]at h;obtain⟨vs,rfl,hvs⟩:=hg.fn_inv;have:=ih h hvs;simp only[mv];exact .fn _ _ vs this.1 this.2
 |dptr _ _=>intro u h _;simp[za1]at h
 |dfn _ _ _=>intro u h _;simp[za1]at h
 |bm _ _ _=>intro u h _;simp[za1]at h
 |op _=>intro u h _;simp[za1]at h
 |ifc t s ih=>
  intro u h hg;simp only[za1]at h;obtain⟨v,rfl,hv⟩:=hg.ifc_inv;simp only[mv];exact .ifc t _ v (ih h hv)
 |junk=>intro u _ _;exact .d _ _ (.junk u)
 |nils=>intro u h _;simp[za1]at h
 |anyb=>intro u h _;simp[za1]at h
 |full _ _=>intro u h _;simp[za1]at h
 |nil=>
  rename_i vs _ hg
  simpa[mv.mvs,hg.nil_inv] using Gs.nil
 |cons c cs ih1 ih2=>
  rename_i vs h hg;simp only[za1.mvOKs]at h
  split at h
  ·rename_i h1;obtain⟨v,vs',rfl,g1,g2⟩:=hg.cons_inv;exact .cons (ih1 h1 g1) (ih2 h g2)
  cases h
def zrU{o:Option Mem}(h:zww o=true):∃(T:TypeId) (α:Type) (enc:α->List SV) (sz:Nat) (xs:List α),o=some (.arr T enc sz xs):=by
 unfold zww at h
 split at h
 ·exact⟨_,_,_,_,_,rfl⟩
 cases h
def zrV{lm:Nat->Option Mem}{Keep:Nat->Prop}{M:List (Nat×Mem)}{ρ:zi}{w:World}(hlm:∀k m,lm k=some m->(k,m)∈M)(hm:zK Keep M ρ w){k:Nat}{T:TypeId}{α:Type}{enc:α->List SV}{sz:Nat}{xs:List α}(hkm:lm k=some (.arr T enc sz xs)){S':Nat->Prop}(hsub:∀b,S' b->Keep b∨Own M ρ b)(hk:∀v b,ρ k=some v->qc v=some b->¬S' b){Pm':Nat->Prop}(hP:∀b,¬Pm' b){ρ':zi}:
  ∀{cs:List SV} {vs:List Value},Gs (λb=>Keep b∨Own M ρ b) (Own M ρ) ρ w cs vs->zwx lm k cs=true->Gs S' Pm' ρ' w (zc2 lm cs) vs
 |[],vs,hg,_=>by rw[hg.nil_inv];exact .nil
 |c::cs,vs,hg,hc=>by
  obtain⟨v,vs',rfl,h1,h2⟩:=hg.cons_inv;unfold zwx at hc
  split at hc
  ·rename_i heq;cases heq
  ·rename_i k' r heq
   cases heq
   split at hc
   ·rename_i hb;have:=Xj hb;subst this;refine .cons ?_ (zrV hlm hm hkm hsub hk hP h2 hc);simp only[zjh,zh8,hkm];exact .d _ _ (zjs hm (hlm _ _ hkm) hsub hk h1.own_inv.1)
   cases hc
  rename_i s r hn heq
  cases heq
  obtain⟨hc1,hc2⟩:=kj hc;exact .cons (zjx hlm hm hsub h1 (.inl hc1) (λb _=>hP b) (λ_ _ b _ _=>hP b)) (zrV hlm hm hkm hsub hk hP h2 hc2)
def za6{c:Call}(open_args:∀{S Pm:Nat->Prop} {ρ:zi} {a:Act} {w:World},Gs S Pm ρ w svs ((k9 (.call c)).map a.eval)->
   ∃vs0,(∀o:Oper,o.op=.call c->zbU P f->(execOp a.eval o).run P w=.ok (.enter f (List.toArray vs0)) w)/\Gs S Pm ρ w za vs0)
  (h:zb P lm κ f za K):∃r md,K r md/\yx P (.call c) svs lm κ r md:=by
 cases h with
 |to r hcall hr hk=>
  refine⟨r,.none,qy hk,λo ho Keep M ρ a w hlm hm _ _ hgs=>?_⟩;have hlm':=λk m h=>zw (hlm k m h)
  obtain⟨vs0,hrun,hg⟩:=open_args hgs;refine qw.call (hrun o ho hcall.1) ?_
  by_cases hcl:uv lm za=true
  ·have hr:zjg r=true:=by unfold zs6 at hr;rw[hcl]at hr;exact hr
   have hb:∀b,(Keep b∨Own M ρ b)->b<w.heap.size:=λb hb=>hb.elim (hm.kp b) λh=>(hm.old b h).1
   have hv:Gs (λb=>(Keep b∨Own M ρ b)∨Own [] (λ_=>none) b) (Own [] (λ_=>none)) (λ_=>none) w (zc2 lm za) vs0:=
    zf5 hlm' hm (λb h=>h.resolve_right zP) (λ_=>zP) hg (.inl hcl)
   refine(hcall.2 (λb=>Keep b∨Own M ρ b) (λ_=>none) w _ hb (qr hb λ_ _ h=>hm.glc h) (λ_ _=>rfl) hv).mono ?_
   rintro e w' ⟨v,ρ',rfl,hs,_,hgr⟩
   obtain⟨hs',hm'⟩:=hm.same hs.os hs.tape hs.output hs.size λb hb=>hs.block b hb zP
   exact⟨v,rfl,ρ,hs',hm',ziT (λb h=>.inl h) hr hgr,λ_ _=>rfl⟩
  have hr:ziM r=true:=by unfold zs6 at hr;rw[Bool.eq_false_iff.2 hcl]at hr;exact hr
  have hv:Gs (λb=>False∨Own [] (λ_=>none) b) (Own [] (λ_=>none)) (λ_=>none) w (zc2 lm za) vs0:=
   zf5 hlm' hm (λb h=>(h.resolve_left id |> zP).elim) (λ_=>zP) hg (.inr λb _ h=>zP (h.resolve_left id))
  refine(hcall.2 (λ_=>False) (λ_=>none) w _ (λ_ h=>h.elim) (qr (λ_ h=>h.elim) λ_ _ h=>hm.glc h) (λ_ _=>rfl) hv).mono ?_
  rintro e w' ⟨v,ρ',rfl,hs,_,hgr⟩
  obtain⟨hs',hm'⟩:=hm.same hs.os hs.tape hs.output hs.size λb hb=>hs.block b hb zP
  exact⟨v,rfl,ρ,hs',hm',zuL hr hgr,λ_ _=>rfl⟩
 |fresh m r hcall hr0 hfm hcl hk=>
  refine⟨_,_,qy hk,λo ho Keep M ρ a w hlm hm hκ hκM hgs=>?_⟩;replace hκ:=hκ _ (Xk _) (XX _);replace hκM:=hκM rfl;have hlm':=λk m h=>zw (hlm k m h)
  obtain⟨vs0,hrun,hg⟩:=open_args hgs;refine qw.call (hrun o ho hcall.1) ?_
  have fin:∀(S0:Nat->Prop),((∀b,Keep b∨Own M ρ b->S0 b)∨ziN m)->∀(w':World) (v:Value) (ρ':zi),Stp (Own [] (λ_=>none)) (Own [(0,m)] ρ') (λ_=>none) ρ' w w'->zK S0 [(0,m)] ρ' w'->
    G (λb=>S0 b∨Own [(0,m)] ρ' b) (Own [(0,m)] ρ') ρ' w' r v->kR Keep M ρ w κ (mv κ r) (.push m) v w':=by
   intro S0 hS0 w' v1 ρ' hs hm' hgr;obtain⟨v,hv0⟩:=(hm'.rel 0 m (.head _)).name
   have hownv:∀b,qc v=some b->w.heap.size<=b/\b<w'.heap.size:=λb hb=>
    have ho:Own [(0,m)] ρ' b:=⟨0,m,v,.head _,hv0,hb⟩
    ⟨(hs.own b ho).resolve_left zP,(hm'.old b ho).1⟩
   have hown0:∀b,Own [(0,m)] ρ' b->qc v=some b:=by
    rintro b ⟨k,m',v',h,h1,h2⟩
    cases h with
    |head=>rw[hv0]at h1;cases h1;exact h2
    |tail _ h=>cases h
   refine kR.push (u:=v) (hm.grow (λ_ h=>h) hm.keys hκ hκM v m w' hs.os hs.tape hs.output hs.size (λb hb _=>hs.block b hb zP)
    (λk m v b h1 h2 h3=>hs.block b (hm.old b ⟨k,m,v,h1,h2,h3⟩).1 zP)
    (λb hb=>⟨.inr (hownv b hb).1,(hownv b hb).2,λk m v' h1 h2 h3=>by have:=(hm.old b ⟨k,m,v',h1,h2,h3⟩).1;have:=(hownv b hb).1;omega⟩) λhst=>?_) (mv_g hv0 kD r hr0 hgr)
   rcases hS0 with hS0|hsc
   ·refine jG.move (S:=λb=>S0 b∨Own [(0,m)] ρ' b) (Pm:=Own [(0,m)] ρ') (by rw[kD,hv0]) hfm (λs u _ hd=>.inl (hd.less λb hb=>?_)) (hm'.rel 0 m (.head _))
    rcases hb with hb|⟨k,m',v',h1,h2,h3⟩
    ·exact .inl (hS0 b (.inl hb))
    cases h1 with
    |head=>rw[kD]at h2;cases h2;exact .inr ⟨0,m,v,.head _,hv0,h3⟩
    |tail _ h1=>rw[zfs (λe=>by subst e;exact hκM _ h1)]at h2;exact .inl (hS0 b (.inr ⟨k,m',v',h1,h2,h3⟩))
   exact jG.scalar (by rw[kD,hv0]) hsc (hm'.rel 0 m (.head _))
  by_cases hcl':uv lm za=true
  ·have hb:∀b,(Keep b∨Own M ρ b)->b<w.heap.size:=λb hb=>hb.elim (hm.kp b) λh=>(hm.old b h).1
   have hv:Gs (λb=>(Keep b∨Own M ρ b)∨Own [] (λ_=>none) b) (Own [] (λ_=>none)) (λ_=>none) w (zc2 lm za) vs0:=
    zf5 hlm' hm (λb h=>h.resolve_right zP) (λ_=>zP) hg (.inl hcl')
   refine(hcall.2 (λb=>Keep b∨Own M ρ b) (λ_=>none) w _ hb (qr hb λ_ _ h=>hm.glc h) (λ_ _=>rfl) hv).mono ?_
   rintro e w' ⟨v,ρ',rfl,hs,hm',hgr⟩
   exact⟨v,rfl,fin _ (.inl λb h=>h) w' v ρ' hs hm' hgr⟩
  have hsc:=hcl.resolve_left hcl'
  have hv:Gs (λb=>False∨Own [] (λ_=>none) b) (Own [] (λ_=>none)) (λ_=>none) w (zc2 lm za) vs0:=
   zf5 hlm' hm (λb h=>(h.resolve_left id |> zP).elim) (λ_=>zP) hg (.inr λb _ h=>zP (h.resolve_left id))
  refine(hcall.2 (λ_=>False) (λ_=>none) w _ (λ_ h=>h.elim) (qr (λ_ h=>h.elim) λ_ _ h=>hm.glc h) (λ_ _=>rfl) hv).mono ?_
  rintro e w' ⟨v,ρ',rfl,hs,hm',hgr⟩
  exact⟨v,rfl,fin _ (.inr hsc) w' v ρ' hs hm' hgr⟩
 |see k r hcall hka hcs hr hk=>
  obtain⟨T,α,enc,sz,xs,hlk⟩:=zrU hka;refine⟨r,.drop k,qy hk,λo ho Keep M ρ a w hlm hm _ _ hgs=>?_⟩;have hlm':=λk m h=>zw (hlm k m h)
  obtain⟨vs0,hrun,hg⟩:=open_args hgs;refine qw.call (hrun o ho hcall.1) ?_;have hmem:=hlm' k _ hlk;have hsub:∀b,(Keep b∨Own (qg M k) ρ b)->Keep b∨Own M ρ b:=λb hb=>hb.imp id λ⟨k',m',v',h1,h2,h3⟩=>⟨k',m',v',qC _ h1,h2,h3⟩
  have hb:∀b,(Keep b∨Own (qg M k) ρ b)->b<w.heap.size:=λb hb=>(hsub b hb).elim (hm.kp b) λh=>(hm.old b h).1
  have hkk:∀v b,ρ k=some v->qc v=some b->¬(Keep b∨Own (qg M k) ρ b):=λv b hv' hb hSb=>by
   rcases hSb with hSb|⟨k',m',v',h4,h5,h6⟩
   ·exact(hm.old b ⟨k,_,v,hmem,hv',hb⟩).2 hSb
   exact hm.apart k _ k' m' v v' b hmem (qC _ h4) (Ne.symm (v9 hm.keys _ h4)) hv' h5 hb h6
  have hv:Gs (λb=>(Keep b∨Own (qg M k) ρ b)∨Own [] (λ_=>none) b) (Own [] (λ_=>none)) (λ_=>none) w (zc2 lm za) vs0:=
   zrV hlm' hm hlk (λb h=>hsub b (h.resolve_right zP)) (λv b h1 h2 h3=>hkk v b h1 h2 (h3.resolve_right zP)) (λ_=>zP) hg hcs
  refine(hcall.2 (λb=>Keep b∨Own (qg M k) ρ b) (λ_=>none) w _ hb (qr hb λ_ _ h=>hm.glc h) (λ_ _=>rfl) hv).mono ?_
  rintro e w' ⟨v,ρ',rfl,hs,_,hgr⟩
  obtain⟨hs1,hm1⟩:=hm.let_go (M1:=qg M k) (λx hx=>qC x hx) (jg hm.keys);obtain⟨hs',hm'⟩:=hm1.same hs.os hs.tape hs.output hs.size λb hb=>hs.block b hb zP
  exact⟨v,rfl,ρ,⟨hs.os,hs.tape,hs.output,hs.size,λb hb _=>hs.block b hb zP,λb ⟨k',m',v',h1,h2,h3⟩=>.inl ⟨k',m',v',qC _ h1,h2,h3⟩,λ_ _ h=>h⟩,hm',
   ziT (λb h=>.inl h) hr hgr,λ_ _=>rfl⟩
 |hand k m m' r hlk hcall hfm hfm' hcl hr hk=>
  refine⟨r,.set k m',qy hk,λo ho Keep M ρ a w hlm hm _ _ hgs=>?_⟩;have hlm':=λk m h=>zw (hlm k m h)
  obtain⟨vs0,hrun,hg⟩:=open_args hgs;refine qw.call (hrun o ho hcall.1) ?_;have hkm:=hlm' k m hlk;obtain⟨v0,hv0⟩:=(hm.rel k m hkm).name
  have hS:∀b,((Keep b∨Own M ρ b)/\qc v0≠some b)∨Own [(0,m)] (one v0) b->Keep b∨Own M ρ b:=λb hb=>
   hb.elim (λh=>h.1) λh=>.inr ⟨k,m,v0,hkm,hv0,zbz.1 h⟩
  have hlt:∀b,(Keep b∨Own M ρ b)->b<w.heap.size:=λb hb=>hb.elim (hm.kp b) λh=>(hm.old b h).1
  have hm0:zK (λb=>(Keep b∨Own M ρ b)/\qc v0≠some b) [(0,m)] (one v0) w:=by
   refine⟨λk' m1 h=>?_,X8.2 ⟨λ_ h=>(by cases h),List.Pairwise.nil⟩,λk1 m1 k2 m2 _ _ _ h1 h2 hne=>?_,λb hb=>?_,λb hb=>hlt b hb.1,λg v h=>⟨λho=>(hm.gl g v h).1 ⟨k,m,v0,hkm,hv0,zbz.1 ho⟩,hm.glc h⟩⟩
   ·cases h with
    |head=>exact jG.move (by rw[uG,hv0]) hfm (λs u _ hd=>.inl (hd.less hS)) (hm.rel k m hkm)
    |tail _ h=>cases h
   ·cases h1 with
    |head=>cases h2 with
     |head=>exact absurd rfl hne
     |tail _ h=>cases h
    |tail _ h=>cases h
   have:=zbz.1 hb;exact⟨(hm.old b ⟨k,m,v0,hkm,hv0,this⟩).1,λh=>h.2 this⟩
  have hgv:=zth (Pm':=Own [(0,m)] (one v0)) hlm' hm hlk hv0 hS (λb hb=>zbz.1 hb) hg hcl
  refine(hcall.2 _ (one v0) w _ (λb hb=>hlt b hb.1) hm0 (λk' hk'=>by
   have:k'≠0:=by simp at hk';omega
   simp[one,this]) hgv).mono ?_
  rintro e w' ⟨v,ρ',rfl,hs,hm',hgr⟩
  have hρ0:ρ' 0=some v0:=hs.rho 0 v0 uG
  have hown':∀b,Own [(0,m')] ρ' b->qc v0=some b:=by
   rintro b ⟨k1,m1,v1,h,h1,h2⟩
   cases h with
   |head=>rw[hρ0]at h1;cases h1;exact h2
   |tail _ h=>cases h
  have hkeys:(qH M k m').map (·.1)=M.map (·.1):=zaP
  have hst:Stp (Own M ρ) (Own (qH M k m') ρ) ρ ρ w w':=
   ⟨hs.os,hs.tape,hs.output,hs.size,λb hb hn=>hs.block b hb λho=>hn ⟨k,m,v0,hkm,hv0,zbz.1 ho⟩,λb hb=>.inl (zaa hkeys.symm hb),λ_ _ h=>h⟩
  have hback:∀b,Keep b∨Own (qH M k m') ρ b->((Keep b∨Own M ρ b)/\qc v0≠some b)∨Own [(0,m')] ρ' b:=λb hb=>by
   by_cases hbv:qc v0=some b
   ·exact .inr ⟨0,m',v0,.head _,hρ0,hbv⟩
   exact .inl ⟨hb.imp id λh=>zaa hkeys.symm h,hbv⟩
  refine⟨v,rfl,ρ,hst,zK.next k hm hst (yL hkeys hm.keys) ?_ ?_ ?_,ziT hback hr hgr,λ_ _=>rfl⟩
  ·intro k' m1 h1 hne
   obtain⟨_,h2⟩|h2:=jJ hm.keys _ h1
   ·refine⟨h2,rfl,λv' b' hv' hb'=>hs.block b' (hm.old b' ⟨k',m1,v',h2,hv',hb'⟩).1 λho=>?_⟩;exact hm.apart k' m1 k m v' v0 b' h2 hkm hne hv' hv0 hb' (zbz.1 ho)
   cases h2;exact absurd rfl hne
  ·intro m1 h1
   obtain⟨h2,_⟩|h2:=jJ hm.keys _ h1
   ·exact absurd rfl h2
   cases h2
   exact jG.move (by rw[hv0,hρ0]) hfm' (λs u _ hd=>.inl (hd.less hback)) (hm'.rel 0 m' (.head _))
  intro m1 v' b' _ hv' hb';rw[hv0]at hv';cases hv'
  have ho:Own M ρ b':=⟨k,m,v0,hkm,hv0,hb'⟩;refine⟨λk' m2 v2 h2 hne hv2 hb2=>?_,Xw (hm.old b' ho).1 hs.size,(hm.old b' ho).2⟩
  obtain⟨_,h3⟩|h3:=jJ hm.keys _ h2
  ·exact hm.apart k' m2 k m v2 v0 b' h3 hkm hne hv2 hv0 hb2 hb'
  cases h3;exact absurd rfl hne
 |give ks nn args' Mc M' r hcall ha hl hn hk hM hr hM' hkk=>
  refine⟨_,_,qy (zf9 hkk),λo ho Keep M ρ a w hlm hm hκ _ hgs=>?_⟩;obtain⟨vs0,hrun,hg⟩:=open_args hgs;exact qw.call (hrun o ho hcall.1)<|zrS hcall ha hl hn hk hM hr hM' hlm hm hκ hg
def zC2{vs:List Value}{S Pm:Nat->Prop}{ρ:zi}{w:World}:Gs S Pm ρ w (vs.map .val) vs:=by
 refine⟨by simp,λj s v h1 h2=>?_⟩;rw[XD,h2]at h1
 cases h1
 exact .d _ _ (.val v)
def ofV_g{v:Value}{w:World}:G S Pm ρ w (ofV v) v:=by
 unfold ofV
 split
 ·rename_i a;have this:=zC2 (vs:=a.toList) (S:=S) (Pm:=Pm) (ρ:=ρ) (w:=w);have h:=G.agg (S:=S) (Pm:=Pm) (ρ:=ρ) (w:=w) _ _ this.1 this.2
  simpa using h
 exact .d _ _ (.val v)
def zC3{w:World}:Gs S Pm ρ w (vs.map ofV) vs:=by
 refine⟨by simp,λj s v h1 h2=>?_⟩;rw[XD,h2]at h1
 cases h1
 exact ofV_g
def zjG:∀{cs:List SV} {K:List Value->Prop},zs8 cs K->∃vs,K vs/\cs=vs.map .val
 |[],K,h=>⟨[],h,rfl⟩
 |.val v::cs,K,h=>by
  have h:zs8 cs λvs=>K (v::vs):=h
  obtain⟨vs,h1,h2⟩:=zjG h;exact⟨v::vs,h1,by rw[h2];rfl⟩
def zuO{s:SV}{K:Value->Prop}(h:conc s K):∃v,K v/\∀{S Pm:Nat->Prop} {ρ:zi} {w:World} {u:Value},G S Pm ρ w s u->u=v:=by
 cases s with
 |val v=>exact⟨v,h,λhu=>hu.val_inv⟩
 |agg cs=>
  obtain⟨vs,h1,h2⟩:=zjG h;refine⟨_,h1,λhu=>?_⟩;obtain⟨us,rfl,hus⟩:=hu.agg_inv;subst h2
  have:us=vs:=by
   refine Kq λj=>?_
   have hl:=hus.1;rw[Xx]at hl
   rcases Qe j vs.length with hj|hj
   ·have h1:=hus.2 j (.val vs[j]) (us[j]'oM) (by simp[hj]) (by simp);rw[Xb oM,Xb hj,h1.val_inv]
   rw[XG oM,XG hj]
  rw[this]
 |_=>exact h.elim
def zjH:∀{cs:List SV} {K:List Value->Prop},zs9 cs K->∃vs,K vs/\∀{S Pm:Nat->Prop} {ρ:zi} {w:World} {us:List Value},Gs S Pm ρ w cs us->us=vs
 |[],K,h=>⟨[],h,λhg=>hg.nil_inv⟩
 |c::cs,K,h=>by
  have h:conc c λv=>zs9 cs λvs=>K (v::vs):=h
  obtain⟨v,h,h1⟩:=zuO h;obtain⟨vs,h,h2⟩:=zjH h;refine⟨v::vs,h,λhg=>?_⟩;obtain⟨u,us,rfl,g1,g2⟩:=hg.cons_inv;rw[h1 g1,h2 g2]
def zhp(hT:TOK P Γ){op:Op}(hlive:Live lm svs)(h:opV P Γ op svs lm κ K):∃r md,K r md/\yx P op svs lm κ r md:=by
 unfold opV at h
 split at h
 ·rename_i x s;exact⟨s,.none,h,.pure λo ho S Pm ρ a w hgs=>⟨_,by simp[execOp,ho],Gs.head hgs⟩⟩
 ·rename_i x s;exact⟨s,.none,h,.pure λo ho S Pm ρ a w hgs=>⟨_,by simp[execOp,ho],Gs.head hgs⟩⟩
 ·obtain⟨r,h1,h2⟩:=zrM h;exact⟨r,_,h1,h2⟩
 ·exact zpc hT h
 ·exact zrT h
 ·obtain⟨r,h1,h2⟩:=zpk hT h;exact⟨r,_,h1,h2⟩
 ·exact zhj hT h
 ·obtain⟨r,h1,h2⟩:=zrO hT h;exact⟨r,_,h1,h2⟩
 ·exact zpd hT h
 ·split at h
  ·exact⟨_,_,h,.pure λo ho S Pm ρ a w hgs=>by
    obtain⟨b,hρ,hx⟩:=(Gs.head hgs).loc_inv
    exact⟨_,by simp[execOp,ho,hx],.loc _ _ b hρ⟩⟩
  ·rename_i cs
   exact⟨_,_,h,.pure λo ho S Pm ρ a w hgs=>by
    have hg:=Gs.head hgs;obtain⟨b,o',c,hx,_⟩:=hg.ptr_inv;rw[hx]at hg
    exact⟨_,by simp[execOp,ho,hx],hg⟩⟩
  ·rename_i cs
   exact⟨_,_,h,.pure λo ho S Pm ρ a w hgs=>by
    have hg:=Gs.head hgs;obtain⟨b,o',c,hx,_⟩:=hg.dptr_inv;rw[hx]at hg
    exact⟨_,by simp[execOp,ho,hx],hg⟩⟩
  ·exact⟨_,_,h,.pure λo ho S Pm ρ a w hgs=>by
    have hg:=Gs.head hgs;obtain⟨b,len,cap,_,hx⟩:=hg.eloc_inv;rw[hx]at hg
    exact⟨_,by simp[execOp,ho,hx],hg⟩⟩
  ·exact⟨_,_,h,.pure λo ho S Pm ρ a w hgs=>by
    have hg:=Gs.head hgs;obtain⟨v,hx,_⟩:=hg.ifc_inv;rw[hx]at hg
    exact⟨_,by simp[execOp,ho,hx],hg⟩⟩
  exact h.elim
 ·obtain⟨r,h1,h2⟩:=zuI hT h;exact⟨r,_,h1,h2⟩
 ·obtain⟨r,h1,h2⟩:=zwN h;exact⟨r,_,h1,h2⟩
 ·rename_i src t x s;replace h:=zB h;obtain⟨i0,hi0,h⟩:=h;obtain⟨d0,hd0⟩:=(hT src i0 hi0).und;replace h:=zB h;obtain⟨i,hi,h⟩:=h;have hk:=(hT t i hi).kind
  split at h
  ·rename_i k k' n hkind;rw[hkind]at hk;have hk:P.underlying t=some (.int k):=hk;refine⟨_,_,u7 h,.pure λo ho S Pm ρ a w hgs=>⟨.int k (k.wrap n),?_,(zar.val _).g⟩⟩;have hx:=(Gs.head hgs).val_inv;simp[execOp,ho,hx,convert,run_underlying hd0,run_underlying hk,Conv.intToInt]
  exact h.elim
 ·rename_i fn first caps
  split at h
  ·rename_i f
   split at h
   ·rename_i he;refine⟨_,_,h,.pure λo ho S Pm ρ a w hgs=>?_⟩;have hf:first=#[]:=by simpa using he
    subst hf;replace hgs:Gs S Pm ρ w svs (caps.toList.map a.eval):=hgs;refine⟨.func (.func f) #[] (caps.toList.map a.eval).toArray,?_,.fn f _ _ hgs.1 hgs.2⟩;have he:caps.map a.eval=(caps.toList.map a.eval).toArray:=by apply QI;simp
    rw[←he];simp[execOp,ho,Instr.makeFunc]
   replace h:=zh h;obtain⟨he,h⟩:=h
   split at h
   rotate_left
   ·replace h:=zh h;obtain⟨hfl,h⟩:=h;have hf:caps=#[]:=by simpa using he
    subst hf;refine⟨_,_,h,.pure λo ho S Pm ρ a w hgs=>?_⟩;have hgs:Gs S Pm ρ w svs ((first.toList++[]).map a.eval):=hgs;rw[XE]at hgs;refine⟨.func (.func f) (first.toList.map a.eval).toArray #[],?_,.d _ _ (.bm f _ _ hgs.1 λj s v h1 h2=>y8 (yM hfl j s h1) (hgs.2 j s v h1 h2))⟩;have he:first.map a.eval=(first.toList.map a.eval).toArray:=by apply QI;simp
    rw[←he];simp[execOp,ho,Instr.makeFunc]
   obtain⟨vs,h,h1⟩:=zjH h;have hf:caps=#[]:=by simpa using he
   subst hf;refine⟨_,_,h,.pure λo ho S Pm ρ a w hgs=>⟨_,?_,.d _ _ (.val _)⟩⟩;have hgs:Gs S Pm ρ w svs ((first.toList++[]).map a.eval):=hgs;rw[XE]at hgs;have he:first.map a.eval=vs.toArray:=by apply QI;simpa using h1 hgs
   simp[execOp,ho,Instr.makeFunc,he]
  exact h.elim
 ·exact ziG hT h
 ·exact znN hT h
 ·obtain⟨r,h1,h2⟩:=ziE hT h;exact⟨r,_,h1,h2⟩
 ·obtain⟨r,h1,h2⟩:=zpg hT h;exact⟨r,_,h1,h2⟩
 ·obtain⟨r,h1,h2⟩:=ziF hT h;exact⟨r,_,h1,h2⟩
 ·obtain⟨r,h1,h2⟩:=zph hT h;exact⟨r,_,h1,h2⟩
 ·rename_i x n s
  split at h
  ·rename_i vs
   split at h
   ·rename_i v r hd;refine⟨_,_,qy h,.pure λo ho S Pm ρ a w hgs=>?_⟩;obtain⟨us,hx,hus⟩:=(Gs.head hgs).tup_inv;have hg:=hus.drop n;rw[hd]at hg;obtain⟨u,us',hu,h1,_⟩:=hg.cons_inv
    have hu':us[n]?=some u:=by
     have:(us.drop n)[0]?=some u:=by rw[hu];rfl
     simpa using this
    exact⟨u,by simp[execOp,ho,hx,Instr.extract,hu'],h1⟩
   exact h.elim
  exact h.elim
 ·obtain⟨r,h1,h2⟩:=zlC hT h;exact⟨r,_,h1,h2⟩
 ·obtain⟨r,h1,h2⟩:=znL hT h;exact⟨r,_,h1,h2⟩
 ·exact zlB hT h
 ·exact ziH hT h
 ·exact znJ hT h
 ·obtain⟨r,h1,h2⟩:=znK hT h;exact⟨r,_,h1,h2⟩
 ·rename_i svs c
  split at h
  ·rename_i fx hc
   split at h
   ·rename_i f caps args;refine za6 (λ{S Pm ρ a w} hg=>?_) h;have hg:Gs S Pm ρ w (.fn f caps::args) (a.eval fx::c.args.toList.map a.eval):=by simpa[k9,hc,zcw] using hg
    obtain⟨cv,h1,h2⟩:=hg.head.fn_inv;exact⟨_,λo ho hcl=>zf6 (fs:=[]) ho hc h1 rfl hcl,hg.tail.append h2⟩
   ·rename_i f first args
    refine za6 (λ{S Pm ρ a w} hg=>?_) h;have hg:Gs S Pm ρ w (.val (.func (.func f) first ⟨[]⟩)::args) (a.eval fx::c.args.toList.map a.eval):=by simpa[k9,hc,zcw] using hg
    refine⟨first.toList++(_++[]),λo ho hcl=>zf6 (fs:=first.toList) (caps:=[]) ho hc hg.head.val_inv rfl hcl,zC3.append ?_⟩;rw[XE];exact hg.tail
   ·rename_i f caps args;refine za6 (λ{S Pm ρ a w} hg=>?_) h;have hg:Gs S Pm ρ w (.dfn f caps::args) (a.eval fx::c.args.toList.map a.eval):=by simpa[k9,hc,zcw] using hg
    obtain⟨cv,h1,h2⟩:=hg.head.dfn_inv;exact⟨_,λo ho hcl=>zf6 (fs:=[]) ho hc h1 rfl hcl,hg.tail.append h2⟩
   ·rename_i f first args
    refine za6 (λ{S Pm ρ a w} hg=>?_) h;have hg:Gs S Pm ρ w (.bm f first::args) (a.eval fx::c.args.toList.map a.eval):=by simpa[k9,hc,zcw] using hg
    obtain⟨fv,h1,h2⟩:=hg.head.bm_inv;refine⟨fv++(_++[]),λo ho hcl=>zf6 (fs:=fv) (caps:=[]) ho hc h1 rfl hcl,h2.append ?_⟩;rw[XE];exact hg.tail
   exact h.elim
  ·rename_i rx name hc
   split at h
   ·rename_i t s args;obtain⟨f,hmb,h⟩:=h;refine za6 (λ{S Pm ρ a w} hg=>?_) h;have hg:Gs S Pm ρ w (.ifc t s::args) (a.eval rx::c.args.toList.map a.eval):=by simpa[k9,hc,zcw] using hg
    obtain⟨v,h1,h2⟩:=hg.head.ifc_inv;exact⟨_,λo ho hcl=>zrQ ho hc h1 hmb hcl,.cons h2 hg.tail⟩
   exact h.elim
  rename_i b hb;exact zlA hT hb hlive h
 exact h.elim
end
end Go.Gs
