/- A call to which several blocks of one's own are handed over. -/
import Derived.Test.YtakicgnbhdpknaaGreatDoorPAH
set_option maxRecDepth 100000
set_option maxHeartbeats 8000000
set_option linter.all false
namespace Go.Gs
def jN.named{S Pm:LI}{O:zh}{w:World}{k:Nat}{m:Mem}(h:jN S Pm O w k m):∃v,O k=some v:=by
 cases m with
 |box T c=>obtain⟨b,vs,a,_⟩:=h;exact⟨_,a⟩
 |arr T enc sz xs=>obtain⟨v,cells,a,_⟩:=h;exact⟨_,a⟩
 |garr T sz xs=>obtain⟨v,cells,a,_⟩:=h;exact⟨_,a⟩
 |map d=>obtain⟨r,ents,clock,a,_⟩:=h;exact⟨_,a⟩
section
variable{S S' Pm Pm':LI}{O O':zh}{w:World}{ks:LC}{Y n:Nat}
def zgI(hP:∀b,Pm' b->Pm b)(hρ:∀k v,k<n->O (rn ks Y k)=some v->O' k=some v):∀(s:SV) {v:Value},uU n s=true->G S Pm O w (vS ks Y s) v->G S Pm' O' w s v:=by
 intro s
 induction s using SV.rec (motive_2:=λg=>∀{vs:LA},uU.lows n g=true->Gs S Pm O w (vS.rens ks Y g) vs->Gs S Pm' O' w g vs) with
 |val v=>intro u _ e;exact .d _ _ (e.val_inv ▸ .val _)
 |pr p i=>intro u _ e;rw[e.pr_inv];exact .d _ _ (.pr p i)
 |sl enc xs=>intro u _ e;exact .d _ _ e.sl_inv
 |nils=>intro u _ e;obtain⟨a,rfl⟩:=e.nils_inv;exact .d _ _ (.nils a)
 |anyb=>intro u _ e;obtain⟨b,rfl⟩:=e.anyb_inv;exact .d _ _ (.anyb b)
 |full enc xs=>intro u _ e;obtain⟨a,rfl,F⟩:=e.full_inv;exact .d _ _ (.full enc xs a F)
 |dptr g _=>intro u _ e;cases e with|d _ _ h=>exact .d _ _ h
 |dfn f g _=>intro u _ e;cases e with|d _ _ h=>exact .d _ _ h
 |bm f g _=>intro u _ e;cases e with|d _ _ h=>exact .d _ _ h
 |op v=>intro u _ e;cases e with|d _ _ h=>exact .d _ _ h
 |junk=>intro u _ _;exact .d _ _ (.junk u)
 |ptr g _=>
  intro u _ e
  cases e with
  |d _ _ h=>cases h
  |ptr _ b o c D hPb E h=>exact .ptr _ b o c D (λI=>hPb (hP b I)) E h
 |agg g r=>
  intro u h e;obtain⟨vs,rfl,l⟩:=e.agg_inv;have:=r h l;exact .agg _ vs this.1 this.2
 |tup g r=>
  intro u h e;obtain⟨vs,rfl,l⟩:=e.tup_inv;have:=r h l;exact .tup _ vs this.1 this.2
 |fn f g r=>
  intro u h e;obtain⟨vs,rfl,l⟩:=e.fn_inv;have:=r h l;exact .fn _ _ vs this.1 this.2
 |ifc t s r=>
  intro u h e;obtain⟨v,rfl,J⟩:=e.ifc_inv;exact .ifc t _ v (r h J)
 |loc k off=>
  intro u h e;obtain⟨b,q,rfl⟩:=e.loc_inv;exact .loc _ _ _ (hρ k _ (by simpa[uU] using h) q)
 |own k=>
  intro u h e;obtain⟨q,y⟩:=e.own_inv;exact .own _ _ (hρ k _ (by simpa[uU] using h) q) y
 |eloc k sz i off=>
  intro u h e;obtain⟨b,len,cap,q,rfl⟩:=e.eloc_inv;exact .eloc _ _ _ _ b len cap (hρ k _ (by simpa[uU] using h) q)
 |win k sz lo m=>
  intro u h e;obtain⟨b,len,cap,cap',q,rfl,y,B⟩:=e.win_inv;exact .win _ _ _ _ b len cap cap' (hρ k _ (by simpa[uU] using h) q) y B
 |nil=>
  rename_i vs _ e;rw[Gs.nil_inv e];exact .nil
 |cons c g z A=>
  rename_i vs h e;simp only[uU.lows]at h
  split at h
  .rename_i C;obtain⟨v,L,rfl,q,y⟩:=e.cons_inv;exact .cons (z C q) (A h y)
  cases h
def ztp(hS:∀b,S b->S' b)(hρ:∀k v,k<n->O' k=some v->O (rn ks Y k)=some v):∀(s:SV) {v:Value},zb7 n s=true->G S' Pm' O' w s v->G S Pm O w (vS ks Y s) v:=by
 intro s
 induction s using SV.rec (motive_2:=λg=>∀{vs:LA},zb7.outs n g=true->Gs S' Pm' O' w g vs->Gs S Pm O w (vS.rens ks Y g) vs) with
 |val v=>intro u _ e;exact .d _ _ (e.val_inv ▸ .val _)
 |pr p i=>intro u _ e;rw[e.pr_inv];exact .d _ _ (.pr p i)
 |sl enc xs=>intro u _ e;exact .d _ _ (e.sl_inv.less hS)
 |nils=>intro u _ e;obtain⟨a,rfl⟩:=e.nils_inv;exact .d _ _ (.nils a)
 |anyb=>intro u _ e;obtain⟨b,rfl⟩:=e.anyb_inv;exact .d _ _ (.anyb b)
 |full enc xs=>intro u _ e;obtain⟨a,rfl,C⟩:=e.full_inv;exact .d _ _ (.full enc xs a (C.less hS))
 |dptr g _=>intro u _ e;cases e with|d _ _ h=>exact .d _ _ (h.less hS)
 |dfn f g _=>intro u _ e;cases e with|d _ _ h=>exact .d _ _ (h.less hS)
 |bm f g _=>intro u _ e;cases e with|d _ _ h=>exact .d _ _ (h.less hS)
 |op v=>intro u _ e;cases e with|d _ _ h=>exact .d _ _ (h.less hS)
 |junk=>intro u _ _;exact .d _ _ (.junk u)
 |ptr g _=>intro u h _;cases h
 |agg g q=>
  intro u h e;obtain⟨vs,rfl,l⟩:=e.agg_inv;have:=q h l;exact .agg _ vs this.1 this.2
 |tup g q=>
  intro u h e;obtain⟨vs,rfl,l⟩:=e.tup_inv;have:=q h l;exact .tup _ vs this.1 this.2
 |fn f g q=>
  intro u h e;obtain⟨vs,rfl,l⟩:=e.fn_inv;have:=q h l;exact .fn _ _ vs this.1 this.2
 |ifc t s q=>
  intro u h e;obtain⟨v,rfl,D⟩:=e.ifc_inv;exact .ifc t _ v (q h D)
 |loc k off=>
  intro u h e;obtain⟨b,o,rfl⟩:=e.loc_inv;exact .loc _ _ _ (hρ k _ (by simpa[zb7] using h) o)
 |own k=>
  intro u h e;obtain⟨o,r⟩:=e.own_inv;exact .own _ _ (hρ k _ (by simpa[zb7] using h) o) r
 |eloc k sz i off=>
  intro u h e;obtain⟨b,len,cap,o,rfl⟩:=e.eloc_inv;exact .eloc _ _ _ _ b len cap (hρ k _ (by simpa[zb7] using h) o)
 |win k sz lo m=>
  intro u h e;obtain⟨b,len,cap,cap',o,rfl,r,A⟩:=e.win_inv;exact .win _ _ _ _ b len cap cap' (hρ k _ (by simpa[zb7] using h) o) r A
 |nil=>
  rename_i vs _ e;rw[Gs.nil_inv e];exact .nil
 |cons c g y z=>
  rename_i vs h e;simp only[zb7.outs]at h
  split at h
  .rename_i B;obtain⟨v,E,rfl,o,r⟩:=e.cons_inv;exact .cons (y B o) (z h r)
  cases h
def zba:∀a:LR,(vS.rens ks Y a).length=a.length
 |[]=>rfl
 |c::a=>by simp only[vS.rens,Xn,zba a]
def zbb:∀(a:LR) (j:Nat),(vS.rens ks Y a)[j]?=(a[j]?).map (vS ks Y)
 |[],j=>by simp[vS.rens]
 |c::a,0=>by simp[vS.rens]
 |c::a,j+1=>by simpa[vS.rens] using zbb a j
def zbq:∀{b:LR},uU.lows n b=true->∀(j:Nat) (s:SV),b[j]?=some s->uU n s=true
 |[],_,j,s,h=>by simp at h
 |c::b,a,j,s,h=>by
  simp only[uU.lows]at a
  split at a
  .rename_i d
   cases j with
   |zero=>simp at h;subst h;exact d
   |succ j=>exact zbq a j s (by simpa using h)
  cases a
def zkz:∀{b:LR},zb7.outs n b=true->∀(j:Nat) (s:SV),b[j]?=some s->zb7 n s=true
 |[],_,j,s,h=>by simp at h
 |c::b,a,j,s,h=>by
  simp only[zb7.outs]at a
  split at a
  .rename_i d
   cases j with
   |zero=>simp at h;subst h;exact d
   |succ j=>exact zkz a j s (by simpa using h)
  cases a
def znb(hP:∀b,Pm' b->Pm b)(hρ:∀k v,k<n->O (rn ks Y k)=some v->O' k=some v){j:Nat}(l:j<n){m:Mem}(t:zqk n m)(h:jN S Pm O w (rn ks Y j) (zhX ks Y m)):jN S Pm' O' w j m:=by
 cases m with
 |box T y=>
  obtain⟨b,vs,a,c,d,e,f⟩:=h;refine⟨b,vs,hρ j _ l a,c,d.trans (zba y),e,λi s v g B=>?_⟩;exact zgI hP hρ s (zbq t i s g) (f i _ v (by rw[zbb,g];rfl) B)
 |arr T enc sz xs=>
  obtain⟨v,cells,a,c,d,e,f,p⟩:=h;exact⟨v,cells,hρ j _ l a,c,d,e,f,p⟩
 |garr T sz xs=>
  obtain⟨v,cells,a,c,d,e,f,p⟩:=h;refine⟨v,cells,hρ j _ l a,by simpa using c,by simpa using d,e,λx o=>?_,λi q x s o g=>?_⟩
  .have:=f _ (JT o)
   rwa [zba]at this
  obtain⟨u,A,z⟩:=p i q (vS.rens ks Y x) (vS ks Y s) (by rw[XD,o];rfl) (by rw[zbb,g];rfl);exact⟨u,A,zgI hP hρ s (zbq (t x (Xf o)) q s g) z⟩
 |map C=>
  obtain⟨r,ents,clock,a,c,d,e⟩:=h;exact⟨r,ents,clock,hρ j _ l a,c,d,e⟩
def zCQ(hS:∀b,S b->S' b)(hρ:∀k v,k<n->O' k=some v->O (rn ks Y k)=some v){j:Nat}(A:j<n){m:Mem}(E:zwH n m)(h:jN S' Pm' O' w j m):jN S Pm O w (rn ks Y j) (zhX ks Y m):=by
 cases m with
 |box T D=>
  obtain⟨b,vs,g,l,o,p,z⟩:=h;refine⟨b,vs,hρ j _ A g,l,o.trans (zba D).symm,p,λi s v a M=>?_⟩;rw[zbb]at a
  cases d:D[i]? with
  |none=>simp[d]at a
  |some c=>
   simp[d]at a;subst a;exact ztp hS hρ c (zkz E i c d) (z i c v d M)
 |arr T enc sz xs=>
  obtain⟨v,cells,g,l,o,p,z,B⟩:=h;refine⟨v,cells,hρ j _ A g,l,o,p,z,λi q x s f a=>?_⟩;obtain⟨u,C,J⟩:=B i q x s f a;exact⟨u,C,J.less hS⟩
 |garr T sz xs=>
  obtain⟨v,cells,g,l,o,p,z,B⟩:=h;refine⟨v,cells,hρ j _ A g,by simpa using l,by simpa using o,p,λx f=>?_,λi q x s f a=>?_⟩
  .obtain⟨y,t,rfl⟩:=XN.1 f;rw[zba];exact z y t
  rw[XD]at f
  cases t:xs[i]? with
  |none=>simp[t]at f
  |some y=>
   simp[t]at f;subst f;rw[zbb]at a
   cases d:y[q]? with
   |none=>simp[d]at a
   |some c=>
    simp[d]at a;subst a;obtain⟨u,C,L⟩:=B i q y c t d;exact⟨u,C,ztp hS hρ c (zkz (E y (Xf t)) q c d) L⟩
 |map N=>
  obtain⟨r,ents,clock,g,l,o,p⟩:=h;refine⟨r,ents,clock,hρ j _ A g,l,o,λi n s hi=>?_⟩;obtain⟨e,F,G,I⟩:=p i n s hi;exact⟨e,F,G,I.less hS⟩
end
section
def zd0{x:Nat×Mem}:∀{ks:LC} {M:LT},x∈yc M ks->x∈M
 |[],_,h=>h
 |k::_,M,h=>qj x (zd0 (M:=qb M k) h)
def zci:∀{ks:LC} {M:LT},M.Pairwise (λa b=>a.1≠b.1)->(yc M ks).Pairwise λa b=>a.1≠b.1
 |[],_,h=>h
 |k::ks,M,h=>zci (ks:=ks) (M:=qb M k) (qP h)
def zkA{x:Nat×Mem}:∀{ks:LC} {M:LT},M.Pairwise (λa b=>a.1≠b.1)->x∈yc M ks->x.1∉ks
 |[],_,_,_=>by simp
 |k::r,M,d,h=>by
  intro c
  cases c with
  |head=>exact vu d x (zd0 (M:=qb M x.1) h) rfl
  |tail _ c=>exact zkA (qP d) h c
def zgJ{k:Nat}:∀{l:LC},k∈l->zmF k l=true
 |[],h=>(by cases h)
 |x::r,h=>by
  simp only[zmF]
  split
  .rfl
  rename_i a
  cases h with
  |head=>simp[K4]at a
  |tail _ h=>exact zgJ h
def zf3:∀{l:LC},zaJ l=true->∀(i j k:Nat),l[i]?=some k->l[j]?=some k->i=j
 |[],_,i,j,k,h,_=>by simp at h
 |x::r,b,i,j,k,hi,a=>by
  simp only[zaJ]at b
  split at b
  .cases b
  rename_i c
  have out:∀q:Nat,r[q]? ≠some x:=λq d=>by
   have:=zgJ (Xf d);rw[this]at c;cases c
  match i,j with
  |0,0=>rfl
  |0,j+1=>simp at hi a;subst hi;exact absurd a (out j)
  |i+1,0=>simp at hi a;subst a;exact absurd hi (out i)
  |i+1,j+1=>rw[zf3 b i j k (by simpa using hi) (by simpa using a)]
def zkB{n:Nat}:∀{l:LT},zkj n l=true->∀k m,(k,m)∈l->k<n
 |[],_,k,m,h=>(by cases h)
 |(q,y)::r,a,k,m,h=>by
  simp only[zkj]at a;obtain⟨b,c⟩:=kr a
  cases h with
  |head=>simpa using b
  |tail _ h=>exact zkB c k m h
def zqL{k:Nat}{m:Mem}:∀{l:LT},(k,m)∈l->zql k l=true
 |[],h=>(by cases h)
 |(q,y)::r,h=>by
  simp only[zql]
  split
  .rfl
  rename_i a
  cases h with
  |head=>simp[K4]at a
  |tail _ h=>exact zqL h
def zja:∀{l:LT},zfT l=true->l.Pairwise λa b=>a.1≠b.1
 |[],_=>List.Pairwise.nil
 |(q,y)::r,h=>by
  simp only[zfT]at h
  split at h
  .cases h
  rename_i c;refine X4.2 ⟨λz d e=>?_,zja h⟩;obtain⟨k,m⟩:=z;have e:q=k:=e;subst e;rw[zqL d]at c;cases c
def zkC:∀{n:Nat} {K:LI},zqm n K->K n
 |0,_,h=>h
 |n+1,_,h=>zkC (n:=n) h
def zgK:∀{l:LR} {K:LR->Prop},zgx l K->K l
 |[],_,h=>h
 |c::l,K,h=>zgK (l:=l) (K:=λr=>K (c::r)) (qO (s:=c) (K:=λc=>zgx l λr=>K (c::r)) h)
def zoV{m:Mem}{K:Mem->Prop}(h:zjL m K):K m:=by
 cases m with
 |box T a=>exact zgK (K:=λa=>K (.box T a)) h
 |arr T enc sz xs=>exact h
 |garr T sz xs=>exact h
 |map b=>exact h
def zgL:∀{l:LT} {K:LT->Prop},zgy l K->K l
 |[],_,h=>h
 |(k,m)::l,K,h=>zgL (l:=l) (K:=λr=>K ((k,m)::r)) (zoV (m:=m) (K:=λm=>zgy l λr=>K ((k,m)::r)) (zkC (n:=k) (K:=λk=>zjL m λm=>zgy l λr=>K ((k,m)::r)) h))
def zbW{lm:LJ}{a:LC}{Y:Nat}{Mc:LT}:∀{ks:LC} {i:Nat},zgw lm a Y Mc i ks->∀(q k:Nat),ks[q]?=some k->∃m,zW Mc (i+q)=some m/\lm k=some (zhX a Y m)/\zqk a.length m
 |[],i,_,q,k,h=>by simp at h
 |x::r,i,b,q,k,h=>by
  cases q with
  |zero=>simp at h;subst h;exact b.1
  |succ q=>
   have:=zbW b.2 q k (by simpa using h)
   rwa [show i+1+q=i+(q+1) by omega]at this
def jP{n:Nat}:∀{l:LT},zki n l->∀j m,(j,m)∈l->j<n/\zwH n m
 |[],_,j,m,h=>(by cases h)
 |(q,y)::r,a,j,m,h=>by
  cases h with
  |head=>exact⟨by simpa using a.1.1,a.1.2⟩
  |tail _ h=>exact jP a.2 j m h
def ur{ks:LC}{Y:Nat}:∀{l:LT} {k:Nat} {m:Mem},(k,m)∈ub ks Y l->∃j a,(j,a)∈l/\k=rn ks Y j/\m=zhX ks Y a
 |[],_,_,h=>(by cases h)
 |(q,y)::r,k,m,h=>by
  cases h with
  |head=>exact⟨q,y,.head _,rfl,rfl⟩
  |tail _ h=>
   obtain⟨j,a,b,c⟩:=ur h;exact⟨j,a,.tail _ b,c⟩
def zcj{ks:LC}{Y:Nat}:∀{l:LT} {j:Nat} {m:Mem},(j,m)∈l->(rn ks Y j,zhX ks Y m)∈ub ks Y l
 |(q,y)::r,j,m,h=>by
  cases h with
  |head=>exact .head _
  |tail _ h=>exact .tail _ (zcj h)
variable{ks:LC}{Y:Nat}{j:Nat}
def vz{k:Nat}(h:ks[j]?=some k):rn ks Y j=k:=by unfold rn;rw[h]
def zcV(h:ks.length<=j):rn ks Y j=Y+(j-ks.length):=by unfold rn;rw[XG h]
variable{P:Program}{lm:LJ}
def ztq{f:FuncId}{za:LR}{nn:Nat}{args':LR}{Mc M':LT}{r:SV}(hcall:qg P f args' Mc r M')(ha:LEs za (vS.rens ks Y args'))(hl:uU.lows ks.length args'=true)(hn:zaJ ks=true)(F:yB (Nat.beq Mc.length ks.length) (yB (zkj ks.length Mc) (zfT Mc))=true)(hM:zgw lm ks Y Mc 0 ks)(hr:zb7 (ks.length+nn) r=true)(hM':zki (ks.length+nn) M'){Keep:LI}{M:LT}{O:zh}{w:World}(V:∀k m,lm k=some m->zW M k=some m)(C:zJ Keep M O w)(hκ:∀k,Y<=k->k<Y+nn->O k=none){vs:LA}(hg:Gs (λb=>Keep b∨Own M O b) (Own M O) O w za vs):
  Calls P f vs.toArray w λe w'=>∃v,e=.returned v/\qc Keep M O w Y (vS ks Y r) (.give ks (ub ks Y M') nn) v w':=by
 obtain⟨T,F⟩:=kr F;obtain⟨Q,hkd⟩:=kr F;have hkd:=zja hkd;have T:=Xk T;obtain⟨n,hnl⟩:∃n,n=ks.length:=⟨_,rfl⟩;rw[←hnl]at T Q hl hr hM'
 -- the callee's names
 obtain⟨ρc,hρc⟩:∃ρc:zh,∀j,ρc j=(match ks[j]? with|some k=>O k|none=>none):=⟨_,λ_=>rfl⟩
 have given:∀j m,(j,m)∈Mc->∃k,ks[j]?=some k/\zW Mc j=some m/\lm k=some (zhX ks Y m)/\zqk n m:=λj m L=>by
  have hjn:=zkB Q j m L;have d:=Xb (show j<ks.length by omega);obtain⟨J,c,i,u⟩:=zbW hM j _ d;rw[X8]at c
  have:J=m:=by
   have h4:=zA c
   by_cases e:(j,J)=(j,m)
   .simpa using e
   exfalso
   have:=hkd;obtain⟨a,ha'⟩:=JM h4;obtain⟨b,hb'⟩:=JM L;have B:a≠b:=λe'=>by subst e';rw[ha']at hb';cases hb';exact e rfl
   rw[J7]at this;obtain⟨al,ae⟩:=Xd.1 ha';obtain⟨bl,be⟩:=Xd.1 hb'
   rcases Nat.lt_or_gt_of_ne B with h|h
   .have:=this a b al bl h;rw[ae,be]at this;exact this rfl
   have:=this b a bl al h;rw[ae,be]at this;exact this rfl
  subst this;exact⟨_,d,c,i,by rw[hnl];exact u⟩
 have hdown:∀k v,k<n->O (rn ks Y k)=some v->ρc k=some v:=λk v hkn z=>by
  have d:=Xb (show k<ks.length by omega);rw[vz d]at z;rw[hρc,d];exact z
 have ownc:∀b,Own Mc ρc b->∃j k m v,(j,m)∈Mc/\ks[j]?=some k/\(k,zhX ks Y m)∈M/\O k=some v/\qf v=some b:=by
  rintro b ⟨j,m,v,c,i,u⟩
  obtain⟨k,d,_,U,_⟩:=given j m c;rw[hρc,d]at i;exact⟨j,k,m,v,c,d,zA (V k _ U),i,u⟩
 have ownsub:∀b,Own Mc ρc b->Own M O b:=λb o=>by
  obtain⟨j,k,m,v,_,_,c,i,u⟩:=ownc b o;exact⟨k,_,v,c,i,u⟩
 obtain⟨R,hR⟩:∃R,R=yc M ks:=⟨_,rfl⟩;have memR:∀x,x∈R->x∈M/\x.1∉ks:=λx hx=>by subst hR;exact⟨zd0 hx,zkA C.keys hx⟩
 obtain⟨Kp,hKp⟩:∃Kp:LI,∀b,Kp b↔(Keep b∨Own R O b):=⟨_,λ_=>Qj⟩;have ownR:∀b,Own R O b->Own M O b:=λb ⟨k,m,v,c,i,u⟩=>⟨k,m,v,(memR _ c).1,i,u⟩
 have split:∀b,Keep b∨Own M O b->Kp b∨Own Mc ρc b:=by
  rintro b (o|⟨k,m,v,c,i,u⟩)
  .exact .inl ((hKp b).2 (.inl o))
  by_cases hks:k∈ks
  .obtain⟨j,L⟩:=JM hks;obtain⟨J,p,A,_⟩:=zbW hM j k L;rw[X8]at p;exact .inr ⟨j,J,v,zA p,by rw[hρc,L];exact i,u⟩
  refine .inl ((hKp b).2 (.inr ⟨k,m,v,?_,i,u⟩));subst hR
  have hin:∀{ks:LC} {M:LT},(k,m)∈M->k∉ks->(k,m)∈yc M ks:=by
   intro ks
   induction ks with
   |nil=>intro M h _;exact h
   |cons q r ih=>
    intro M h hq;refine ih (M:=qb M q) ?_ (λe=>hq (.tail _ e));have B:k≠q:=λe=>hq (e ▸ .head _)
    clear ih hq
    induction M with
    |nil=>cases h
    |cons x xs ihx=>
     obtain⟨a,y⟩:=x;simp only[qb]
     split
     .rename_i o;have:=Xk o;subst this
      cases h with
      |head=>exact absurd rfl B
      |tail _ h=>exact h
     cases h with
     |head=>exact .head _
     |tail _ h=>exact .tail _ (ihx h)
  exact hin c hks
 have unsplit:∀b,Kp b∨Own Mc ρc b->Keep b∨Own M O b:=λb o=>o.elim (λh=>((hKp b).1 h).imp id (ownR b)) λh=>.inr (ownsub b h)
 have apartR:∀b,Kp b->¬Own Mc ρc b:=λb o X=>by
  obtain⟨j,k,m,v,_,d,c,i,u⟩:=ownc b X
  rcases(hKp b).1 o with o|⟨Z,J,v',p,A,g3⟩
  .exact(C.old b ⟨k,_,v,c,i,u⟩).2 o
  have B:k≠Z:=λe=>(memR _ p).2 (e ▸ Xf d)
  exact C.apart k _ Z J v v' b c (memR _ p).1 B i A u g3
 have hkp:∀b,Kp b->b<w.heap.size:=λb o=>((hKp b).1 o).elim (C.kp b) λh=>(C.old b (ownR b h)).1
 have hmc:zJ Kp Mc ρc w:=by
  refine⟨λj m L=>?_,hkd,λj m D J v v' b c i B p A g3 g4=>?_,λb o=>⟨(C.old b (ownsub b o)).1,λh=>apartR b h o⟩,hkp,λg v h=>⟨λX=>(C.gl g v h).1 (ownsub g X),C.glc h⟩⟩
  .obtain⟨k,d,_,U,hlow⟩:=given j m L;have W:=C.rel k _ (zA (V k _ U))
   have hmem2:jN (λb=>Kp b∨Own Mc ρc b) (Own M O) O w (rn ks Y j) (zhX ks Y m):=by
    rw[vz d];have hS:(λb=>Kp b∨Own Mc ρc b)=λb=>Keep b∨Own M O b:=funext λb=>propext ⟨unsplit b,split b⟩
    rw[hS];exact W
   exact znb ownsub hdown (zkB Q j m L) hlow hmem2
  obtain⟨k,d,_,U,_⟩:=given j m c;obtain⟨Z,hkj',_,hlk',_⟩:=given D J i;rw[hρc,d]at p;rw[hρc,hkj']at A;exact C.apart k _ Z _ v v' b (zA (V k _ U)) (zA (V Z _ hlk')) (λe=>B (zf3 hn j D k d (e ▸ hkj'))) p A g3 g4
 have hargs:Gs (λb=>Kp b∨Own Mc ρc b) (Own Mc ρc) ρc w args' vs:=by
  have hS:(λb=>Kp b∨Own Mc ρc b)=λb=>Keep b∨Own M O b:=funext λb=>propext ⟨unsplit b,split b⟩
  rw[hS]
  have c:Gs (λb=>Keep b∨Own M O b) (Own M O) O w (vS.rens ks Y args') vs:=by
   clear hl;generalize vS.rens ks Y args'=bs at ha
   induction ha generalizing vs with
   |nil=>exact hg
   |cons h t ih=>
    obtain⟨v,vs',rfl,p,A⟩:=hg.cons_inv;exact .cons (h _ _ _ _ _ p) (ih A)
  refine⟨c.1.trans (zba args'),λj s v N z=>?_⟩;exact zgI ownsub hdown s (zbq hl j s N) (c.2 j _ v (by rw[zbb,N];rfl) z)
 refine(hcall.2 Kp ρc w vs hkp hmc (λk F=>?_) hargs).mono ?_
 .rw[hρc,XG oM]
 rintro e w' ⟨v,O',rfl,N,G,hgr⟩
 refine⟨v,rfl,?_⟩
 -- the caller's names
 obtain⟨O2,hρ2⟩:∃O2:zh,∀k,O2 k=if Y<=k/\k<Y+nn then O' (n+(k-Y)) else O k:=⟨_,λ_=>rfl⟩
 have named:∀j k,ks[j]?=some k->∃v,O k=some v/\O' j=some v:=λj k L=>by
  obtain⟨J,p,A,_⟩:=zbW hM j k L;obtain⟨v,z⟩:=(C.rel k _ (zA (V k _ A))).named;exact⟨v,z,N.rho j v (by rw[hρc,L];exact z)⟩
 have hup:∀j v,j<n+nn->O' j=some v->O2 (rn ks Y j)=some v:=λj v L z=>by
  by_cases hjn:j<n
  .have d:=Xb (show j<ks.length by omega);obtain⟨v1,c,i⟩:=named j _ d;rw[z]at i;cases i
   rw[vz d,hρ2,Xc,c]
   rintro⟨u,h4⟩
   rw[hκ _ u h4]at c;cases c
  rw[zcV oM,hρ2,Xe oM];rw[←hnl,show n+(Y+(j-n)-Y)=j by omega];exact z
 have hrho:∀k v,O k=some v->O2 k=some v:=λk v z=>by
  rw[hρ2,Xc,z]
  rintro⟨u,h4⟩
  rw[hκ _ u h4]at z;cases z
 have back:∀j v,j<n+nn->O2 (rn ks Y j)=some v->O' j=some v:=λj v L z=>by
  by_cases hjn:j<n
  .have d:=Xb (show j<ks.length by omega);obtain⟨v1,c,i⟩:=named j _ d;have:=hrho _ _ c;rw[vz d,this]at z;cases z
   exact i
  rw[zcV oM,hρ2,Xe oM,←hnl,show n+(Y+(j-n)-Y)=j by omega]at z;exact z
 have nameR:∀k m,(k,m)∈R->∃v,O k=some v/\O2 k=some v:=λk m F=>by
  obtain⟨v,z⟩:=(C.rel k m (memR _ F).1).named;exact⟨v,z,hrho k v z⟩
 have ownNew:∀b,Own (ub ks Y M'++R) O2 b↔(Own M' O' b∨Own R O b):=λb=>by
  constructor
  .rintro⟨k,m,v1,c,i,u⟩
   rcases Xt.1 c with c|c
   .obtain⟨j,E,p,rfl,_⟩:=ur c;exact .inl ⟨j,E,v1,p,back j v1 (jP hM' j E p).1 i,u⟩
   obtain⟨v2,p,A⟩:=nameR k m c;rw[i]at A;cases A
   exact .inr ⟨k,m,v1,c,p,u⟩
  rintro(⟨j,m,v1,c,i,u⟩|⟨k,m,v1,c,i,u⟩)
  .exact⟨_,_,v1,KZ _ (zcj c),hup j v1 (jP hM' j m c).1 i,u⟩
  exact⟨k,m,v1,KS _ c,hrho k v1 i,u⟩
 have hset:∀b,Keep b∨Own (ub ks Y M'++R) O2 b->Kp b∨Own M' O' b:=λb o=>by
  rcases o with o|o
  .exact .inl ((hKp b).2 (.inl o))
  rcases(ownNew b).1 o with h|h
  .exact .inr h
  exact .inl ((hKp b).2 (.inr h))
 have hst:Stp (Own M O) (Own (ub ks Y M'++R) O2) O O2 w w':=by
  refine⟨N.os,N.tape,N.output,N.size,λb o hnb=>N.block b o λX=>hnb (ownsub b X),λb o=>?_,hrho⟩
  rcases(ownNew b).1 o with h|h
  .exact(N.own b h).imp (ownsub b) id
  exact .inl (ownR b h)
 have keyNew:∀k m,(k,m)∈ub ks Y M'->k∉(R.map (·.1)):=λk m F hin=>by
  obtain⟨j,E,p,rfl,_⟩:=ur F;obtain⟨⟨k2,m2⟩,c,i⟩:=XN.1 hin;have i:k2=rn ks Y j:=i
  by_cases hjn:j<n
  .have d:=Xb (show j<ks.length by omega);rw[vz d]at i;exact(memR _ c).2 (i ▸ Xf d)
  have:=(jP hM' j E p).1;rw[zcV oM]at i;obtain⟨v1,I,_⟩:=nameR k2 m2 c;rw[hκ k2 oM oM]at I;cases I
 have rninj:∀j D,j<n+nn->D<n+nn->rn ks Y j=rn ks Y D->j=D:=λj D L hj' he=>by
  by_cases c:j<n <;> by_cases i:D<n
  .have k1:=Xb (show j<ks.length by omega);have k2:=Xb (show D<ks.length by omega);rw[vz k1,vz k2]at he;exact zf3 hn j D _ k1 (by rw[k2,he])
  .have k1:=Xb (show j<ks.length by omega);obtain⟨v1,I,_⟩:=named j _ k1;rw[vz k1,zcV oM]at he;rw[hκ _ oM oM]at I;cases I
  .have k2:=Xb (show D<ks.length by omega);obtain⟨v1,I,_⟩:=named D _ k2;rw[vz k2,zcV oM]at he;rw[hκ _ oM oM]at I;cases I
  rw[zcV oM,zcV oM]at he;omega
 have hpw:(ub ks Y M'++R).Pairwise λa b=>a.1≠b.1:=by
  rw[List.pairwise_append];refine⟨?_,by subst hR;exact zci C.keys,λx hx y hy e=>keyNew x.1 x.2 hx (e ▸ JT hy)⟩
  have:∀{l:LT},l.Pairwise (λa b=>a.1≠b.1)->(∀j m,(j,m)∈l->j<n+nn)->(ub ks Y l).Pairwise λa b=>a.1≠b.1:=by
   intro l
   induction l with
   |nil=>intro _ _;exact List.Pairwise.nil
   |cons x xs ih=>
    intro hp hlt;obtain⟨j,m⟩:=x;rw[X4]at hp;refine X4.2 ⟨λy hy e=>?_,ih hp.2 λj m h=>hlt j m (.tail _ h)⟩;obtain⟨k,J⟩:=y;obtain⟨D,E,p,A,_⟩:=ur hy;have e:rn ks Y j=k:=e;rw[A]at e;exact hp.1 (D,E) p (rninj j D (hlt j m (.head _)) (hlt D E (.tail _ p)) e)
  exact this G.keys λj m h=>(jP hM' j m h).1
 have W:zJ Keep (ub ks Y M'++R) O2 w':=by
  refine⟨λk m F=>?_,hpw,λk m Z J v1 v2 b c i B p A g3 g4=>?_,λb o=>?_,λb o=>Xx (C.kp b o) N.size,λg v h=>⟨λX=>((ownNew g).1 X).elim (G.gl g v h).1 λh'=>(C.gl g v h).1 (ownR g h'),G.glc h⟩⟩
  .rcases Xt.1 F with F|F
   .obtain⟨j,E,c,rfl,rfl⟩:=ur F;exact zCQ hset hup (jP hM' j E c).1 (jP hM' j E c).2 (G.rel j E c)
   obtain⟨v1,c,i⟩:=nameR k m F;refine jN.keep hst (i.trans c.symm) (λv2 b p A=>?_) (C.rel k m (memR _ F).1);have X:Own R O b:=⟨k,m,v2,F,p,A⟩;exact N.block b (C.old b (ownR b X)).1 λhc=>apartR b ((hKp b).2 (.inr X)) hc
  .rcases Xt.1 c with c|c <;> rcases Xt.1 i with i|i
   .obtain⟨j,E,q1,rfl,_⟩:=ur c;obtain⟨D,m0',q2,rfl,_⟩:=ur i;exact G.apart j E D m0' v1 v2 b q1 q2 (λe=>B (by rw[e])) (back j v1 (jP hM' j E q1).1 p) (back D v2 (jP hM' D m0' q2).1 A) g3 g4
   .obtain⟨j,E,q1,rfl,_⟩:=ur c;obtain⟨v3,e1,e2⟩:=nameR Z J i;rw[A]at e2;cases e2
    exact(G.old b ⟨j,E,v1,q1,back j v1 (jP hM' j E q1).1 p,g3⟩).2 ((hKp b).2 (.inr ⟨Z,J,v2,i,e1,g4⟩))
   .obtain⟨j,E,q1,rfl,_⟩:=ur i;obtain⟨v3,e1,e2⟩:=nameR k m c;rw[p]at e2;cases e2
    exact(G.old b ⟨j,E,v2,q1,back j v2 (jP hM' j E q1).1 A,g4⟩).2 ((hKp b).2 (.inr ⟨k,m,v1,c,e1,g3⟩))
   obtain⟨v3,e1,e2⟩:=nameR k m c;rw[p]at e2;cases e2
   obtain⟨v4,e3,e4⟩:=nameR Z J i;rw[A]at e4;cases e4
   exact C.apart k m Z J v1 v2 b (memR _ c).1 (memR _ i).1 B e1 e3 g3 g4
  rcases(ownNew b).1 o with h|h
  .exact⟨(G.old b h).1,λQ=>(G.old b h).2 ((hKp b).2 (.inl Q))⟩
  exact⟨Xx (C.old b (ownR b h)).1 N.size,(C.old b (ownR b h)).2⟩
 have e0:zdD M Y (.give ks (ub ks Y M') nn)=ub ks Y M'++R:=by subst hR;rfl
 refine⟨O2,?_,?_,?_,λk F=>?_⟩
 .rw[e0];exact hst
 .rw[e0];exact W
 .rw[e0];exact ztp hset hup r hr hgr
 have F:k<Y∨Y+nn<=k:=F;rw[hρ2,Xc oM]
def zJ.same{Keep:LI}{M:LT}{O:zh}{w w':World}(c:zJ Keep M O w)(d:w'.os=w.os)(htape:w'.tape=w.tape)(hout:kR w w')(hsize:w.heap.size<=w'.heap.size)(hblock:∀b,b<w.heap.size->w'.heap[b]?=w.heap[b]?):Stp (Own M O) (Own M O) O O w w'/\zJ Keep M O w':=by
 have e:Stp (Own M O) (Own M O) O O w w':=⟨d,htape,hout,hsize,λb a _=>hblock b a,λb a=>.inl a,λ_ _ h=>h⟩
 exact⟨e,λk m h=>(c.rel k m h).keep e rfl (λv b f g=>hblock b (c.old b ⟨k,m,v,h,f,g⟩).1),c.keys,c.apart,
  λb a=>⟨Xx (c.old b a).1 hsize,(c.old b a).2⟩,λb a=>Xx (c.kp b a) hsize,c.glS e⟩
variable{H:LS}{x:Operand}{K:LD}
def ztr{e:TypeId}{s:SV}(h:boxV H e s Y K):∃r k,K r k/\yU P (.box e x) [s] lm Y r k:=by
 unfold boxV at h;replace h:=zj h;obtain⟨v,h⟩:=h;have old:K (.loc Y 0) (.push (.box e (kQ s)))->∃r k,K r k/\yU P (.box e x) [s] lm Y r k:=λh=>zwK (by unfold zR;rw[v];exact h)
 split at h
 .split at h
  .split at h
   .rename_i A
    rcases h with h|h
    .exact old h
    refine⟨_,_,h,λo B Keep M O a w _ t hκ hκM m=>?_⟩;obtain⟨l,z⟩:=vZ v (Gs.head m)
    have i:(execOp a.eval o).run P w=.ok (.value (.pointer (some ⟨w.heap.size,0,none⟩))) (w.alloc (.cells (a.eval x).cells e)):=by
     simp[execOp,B,Instr.box,newVar,newRow]
    refine qM.value i ?_;obtain⟨y,u⟩:=t.same (w':=w.alloc (.cells (a.eval x).cells e)) rfl rfl (.cells _ _ _) sI (λb f=>heap_alloc_old w _ b f);refine⟨O,y,u,.d _ _ ?_,λ_ _=>rfl⟩;have hnew:=heap_alloc_new w (.cells (a.eval x).cells e);have C:∀b,b<w.heap.size->True:=λ_ _=>trivial
    refine .dptr _ w.heap.size 0 (λj=>((a.eval x).cells.toList[j]?).getD undef) sI (λf=>?_) (λj p=>?_) (λj s' g=>?_)
    .rcases f with f|f
     .have:=t.kp _ f;omega
     have:=(t.old _ f).1;omega
    .have c:j<(a.eval x).cells.toList.length:=by rw[l.1];exact p
     have q:j<(a.eval x).cells.size:=by simpa using c
     refine⟨?_,?_⟩
     .show(w.alloc (.cells (a.eval x).cells e)).cell? ⟨w.heap.size,0+j,none⟩=_;rw[X8];simp only[World.cell?,hnew];simp[q]
     rw[Xb c,KP];exact z _ (X2 c)
    have p:j<(kQ s).length:=(Xd.1 g).1;have c:j<(a.eval x).cells.toList.length:=by rw[l.1];exact p
    rw[Xb c,KP];exact(uV (yP A j s' g) (l.2 j s' _ g (Xb c))).stp y
   exact old h
  exact old h
 exact old h
def zoW(hT:TOK P H){t:TypeId}{lo hi mx:Option Operand}{m:LR}(h:zoJ H t lo hi mx m lm Y K):∃r L,K r L/\yU P (.slice t x lo hi mx) m lm Y r L:=by
 unfold zoJ at h
 split at h
 .rename_i M;unfold zm0 at h;replace h:=zj h;obtain⟨D,h⟩:=h;obtain⟨Z,D⟩:=kr D;obtain⟨n2,n3⟩:=kr D;have F:lo=none:=by cases lo with|none=>rfl|some _=>cases Z
  have A:hi=none:=by cases hi with|none=>rfl|some _=>cases n2
  have G:mx=none:=by cases mx with|none=>rfl|some _=>cases n3
  subst F;subst A;subst G;replace h:=zE h;obtain⟨i,z,h⟩:=h;have g:=(hT t i z).kind
  split at h
  .rename_i n e hkind;rw[hkind]at g;have g:P.underlying t=some (.array n e):=g;have helem:P.elem t=e:=by simp[Program.elem,g]
   have f:P.arrayLen t=n:=by simp[Program.arrayLen,g]
   have B:P.underlying t=some (.array (P.arrayLen t) (P.elem t)):=by rw[helem,f];exact g
   replace h:=zE h;obtain⟨j,U,h⟩:=h;have E:=(hT e j U).size;obtain⟨α,enc,xs,k,h⟩:=h;obtain⟨N,e2,u⟩:=h.ob;refine⟨_,_,h.go,.pure λo W S Pm O a w y=>?_⟩;obtain⟨b,o',c,v,Q,hS,R,T⟩:=(Gs.head y).dptr_inv
   have l:(execOp a.eval o).run P w=.ok (.value (.slice (some ⟨b,o',none⟩) xs.length n)) w:=by
    simp[execOp,W,v,run_sliceAt_array_all (ht:=B),slicedAt,E,helem,f,N];intro _;simp[Addr.add]
   refine⟨_,l,.d _ _ ?_⟩;have V:=zeS u;refine .sl enc xs j.sz b o' n (λp q=>c (p*j.sz+q)) Q hS oM oM u (λp q X I=>?_) (λp q x s v J=>?_)
   .have C:p*j.sz+q<M.length:=by
     rw[←k,V];have:=Xv j.sz (X6 X);rw[X7]at this;omega
    have:=R _ C
    rwa [KH]
   have I:q<j.sz:=by
    have:=(Xd.1 J).1;rw[u x (Xf v)]at this;exact this
   have:=zeR u p q x v I;rw[k]at this;exact T _ s (this.trans J)
  exact h.elim
 exact zqB hT h
end
end Go.Gs
