/- A region that draws its order, whose last operations wait for all before them. -/
import Derived.Test.YtkngjacccoklaaaGreatDoorMA
import Derived.Test.YtkngjacccoklaaaGreatDoorMAT
import Derived.Test.YtkngjacccoklaaaGreatDoorMAU
import Derived.Test.YtkngjacccoklaaaGreatDoorMAK
import Derived.Test.YtkngjacccoklaaaGreatDoorMAM
set_option maxRecDepth 100000
set_option maxHeartbeats 8000000
set_option linter.all false
namespace Go.Gs
def zmI(all:List Oper)(m:Nat):Bool:=
 let ms:=zbu all all.length
 ziR all&&Nat.ble m all.length&&((all.take m).all λo=>o.guard.isNone)&&(List.range all.length).all λj=>Nat.blt j m||(List.range j).all λi=>(ms.getD j 0).testBit i
def zmJ{all:List Oper}{m:Nat}(h:zmI all m=true):m<=all.length/\(∀i o,i<m->all[i]?=some o->o.guard=none)/\
  (∀j o,all[j]?=some o->∀e∈o.after,Region.binds .any e=true->e.on<j)/\∀i j,m<=j->j<all.length->i<j->Anc all j i:=by
 unfold zmI at h;simp only[XA]at h;obtain⟨⟨⟨h1,h2⟩,h3⟩,h4⟩:=h;refine⟨Xz h2,λi o hi ho=>?_,λj o ho e he hb=>?_,λi j hm hj hij=>?_⟩
 ·have hmem:o∈all.take m:=Xf (i:=i) (by rw[XI,Xe hi];exact ho);have:=XR.1 h3 o hmem
  simpa using this
 ·have hjl:j<all.length:=(Xd.1 ho).1;unfold ziR at h1;have:=XR.1 h1 j (Kd.2 hjl);simp only[ho]at this;have:=XR.1 this e (by simpa using he);simp only[hb,QD,QN]at this;exact Xz this
 have:=XR.1 h4 j (Kd.2 hj)
 have hb:Nat.blt j m=false:=by
  cases hb:Nat.blt j m with
  |false=>rfl
  |true=>have:j+1<=m:=Xz hb;omega
 simp only[hb,QN]at this;exact zdv all all.length j i hj (XR.1 this i (Kd.2 hij))
def zdT{ops:List Oper}{listed:Array Bool}{i:Nat}(hsz:listed.size=ops.length):i∈Region.ready .any ops.toArray listed↔
  ∃o,ops[i]?=some o/\listed.getD i false=false/\∀e∈o.after,Region.binds .any e=true->listed.getD e.on false=true:=by
 rw[zem]
 have key:∀o,ops[i]?=some o->listed.getD i true=listed.getD i false:=λo ho=>by
  have:i<listed.size:=by have:=(Xd.1 ho).1;omega
  simp[Array.getD,this]
 exact⟨λ⟨o,h1,h2,h3⟩=>⟨o,h1,(key o h1) ▸ h2,h3⟩,λ⟨o,h1,h2,h3⟩=>⟨o,h1,(key o h1).symm ▸ h2,h3⟩⟩
def zqw(R:Act->World->Prop):Exit->Act->World->Prop
 |.normal,a,w=>R a w
 |_,_,_=>False
def Oper.wp_only{P:Program}{o:Oper}{a:Act}{w:World}{K K':Act->World->Prop}{R:Act->World->Prop}{Q:Exit->Act->World->Prop}(h:∀a w,K a w->K' a w)(hh:o.wp P a w K (zqw R)):o.wp P a w K' Q:=by
 unfold Oper.wp at*;generalize (execOp a.eval o).run P w=r at*;have no:¬LetsOut (zqw R):=λ⟨_,_,k⟩=>k
 cases r with
 |ok n w'=>
  cases n <;> simp only[Oper.upon]at hh ⊢ <;>
   first
    |exact h _ _ hh
    |exact Calls.mono hh (λe w'' he=>by cases e <;> first|exact h _ _ he|exact he.elim|exact(no he).elim)
    |exact Rows.mono hh (λ_ _ he=>h _ _ he)
 |halt x w'=>cases x <;> simp only[Oper.upon]at hh ⊢ <;> exact hh.elim
section
variable{F:Fence}{n:Nat}{P:Program}{all:List Oper}{Q:Exit->Act->World->Prop}{m:Nat}
def zAV(hedges:∀j o,all[j]?=some o->∀e∈o.after,Region.binds .any e=true->e.on<j)(hanc:∀i j,m<=j->j<all.length->i<j->Anc all j i):
  ∀(k fuel j:Nat) (la:Array Bool) (a:Act) (w:World),k=all.length-j->m<=j->j<=all.length->all.length-j<=fuel->la.size=all.length->(∀i,la.getD i false=true↔i<j)->
   wpListIn F n P all.toArray Q (all.drop j) a w->wpAnyIn F n P .any all.toArray Q fuel la a w:=by
 intro k
 induction k with
 |zero=>
  intro fuel j la a w hk hm hj hf hsz hla h;have hj:j=all.length:=oM;subst hj;rw[List.drop_length]at h;have h:Q .normal a w:=h
  have hr:Region.ready .any all.toArray la=[]:=by
   cases hr:Region.ready .any all.toArray la with
   |nil=>rfl
   |cons i r=>
    have hi:i∈Region.ready .any all.toArray la:=by rw[hr];exact .head _
    obtain⟨o,ho,h2,_⟩:=(zdT hsz).1 hi;have:=(hla i).2 (Xd.1 ho).1;rw[h2]at this;cases this
  cases fuel with
  |zero=>exact⟨hr,h⟩
  |succ fuel=>exact⟨λ_=>h,λi hi=>(by rw[hr]at hi;cases hi)⟩
 |succ k ih=>
  intro fuel j la a w hk hm hj hf hsz hla h;have hjl:j<all.length:=oM;obtain⟨o,ho⟩:∃o,all[j]?=some o:=⟨_,Xb hjl⟩
  cases fuel with
  |zero=>omega
  |succ fuel=>
  have hnot:∀i,¬i<j->la.getD i false=false:=λi hi=>by
   cases hb:la.getD i false with
   |false=>rfl
   |true=>exact absurd ((hla i).1 hb) hi
  have hready:j∈Region.ready .any all.toArray la:=(zdT hsz).2 ⟨o,ho,hnot j (Yy j),λe he hb=>(hla _).2 (hedges j o ho e he hb)⟩;refine⟨λhn=>(by rw[hn]at hready;cases hready),λi hi=>?_⟩;obtain⟨oi,hoi,h2,h3⟩:=(zdT hsz).1 hi;have hil:=(Xd.1 hoi).1;have hge:¬i<j:=λhlt=>by rw[(hla i).2 hlt]at h2;cases h2
  have hij:i=j:=by
   refine XN λhne=>?_
   have hD:=hanc j i oM hil oM (λq=>la.getD q false=true) (λq oq hq hoq e he hb=>(hla _).2 (by have:=hedges q oq hoq e he hb;have:=(hla q).1 hq;omega))
    (λo' ho' e he hb=>by rw[hoi]at ho';cases ho';exact h3 e he hb)
   exact absurd ((hla j).1 hD) (Yy j)
  subst hij
  have hnext:∀a w,wpListIn F n P all.toArray Q (all.drop (i+1)) a w->wpAnyIn F n P .any all.toArray Q fuel (la.setIfInBounds i true) a w:=λa w hh=>
   ih fuel (i+1) _ a w oM oM oM oM (by simpa using hsz) (λq=>by
    by_cases e:i=q
    ·subst e;have:i<la.size:=oM;simp[Array.getD,this]
    simp only[X6,KN e]
    rw[←X6,hla q];omega) hh
  rw[KT hjl]at h;have eo:all[i]=o:=by rw[Xb hjl]at ho;exact Xm ho
  rw[eo]at h;unfold wpListIn at h;unfold wpOpIn;have ho':all.toArray[i]?=some o:=by simpa using ho
  rw[ho'];dsimp only
  split
  ·rename_i hw;rw[Xe hw]at h;exact Oper.wpIn_mono hnext h
  rename_i hw;rw[Xc hw]at h;exact⟨h.1,hnext _ _ h.2⟩
def zyu(hF:yi F)(hd:yX all=true)(ht:zmI all m=true){R:Act->World->Prop}(hR:∀a w,R a w->wpListIn F n P all.toArray Q (all.drop m) a w):
  ∀(fuel:Nat) (lp la:Array Bool) (a:Act) (w:World),lp.size=m->la.size=all.length->(∀i,i<m->la.getD i false=lp.getD i false)->(∀i,m<=i->la.getD i false=false)->
   Down all (λi=>la.getD i false=true)->wpAny P .any (all.take m).toArray (zqw R) fuel lp a w->lp.toList.count false<=fuel->wpAnyIn F n P .any all.toArray Q (fuel+(all.length-m)) la a w:=by
 obtain⟨hm,hgd,hedges,hanc⟩:=zmJ ht;have hlen:(all.take m).length=m:=by rw[Xo];omega
 have hto:∀{i o},(all.take m)[i]?=some o->i<m/\all[i]?=some o:=λ{i o} h=>by
  have hi:i<m:=by have:=(Xd.1 h).1;omega
  rw[XI,Xe hi]at h;exact⟨hi,h⟩
 have hback:∀{i o},i<m->all[i]?=some o->(all.take m)[i]?=some o:=λ{i o} hi h=>by rw[XI,Xe hi];exact h
 -- all of the first are listed
 have full:∀(lp la:Array Bool) (a:Act) (w:World) (fuel:Nat),la.size=all.length->(∀i,i<m->la.getD i false=lp.getD i false)->(∀i,m<=i->la.getD i false=false)->
   (∀i,i<m->lp.getD i false=true)->all.length-m<=fuel->R a w->wpAnyIn F n P .any all.toArray Q fuel la a w:=λlp la a w fuel hsz h1 h2 h3 hf hr=>
  zAV hedges hanc _ fuel m la a w rfl (Xk m) hm hf hsz (λi=>by
   by_cases hi:i<m
   ·rw[h1 i hi,h3 i hi];simp[hi]
   rw[h2 i oM];simp[hi]) (hR a w hr)
 have hdone:∀(lp:Array Bool),lp.size=m->Region.ready .any (all.take m).toArray lp=[]->∀i,i<m->lp.getD i false=true:=λlp hsz hn i=>by
  induction i using Nat.strongRecOn with
  |_ i ih=>
   intro hi
   cases hb:lp.getD i false with
   |true=>rfl
   |false=>
    obtain⟨o,ho⟩:∃o,all[i]?=some o:=⟨_,Xb (show i<all.length by omega)⟩
    have:i∈Region.ready .any (all.take m).toArray lp:=(zdT oM).2 ⟨o,hback hi ho,hb,λe he hbind=>by
     have:=hedges i o ho e he hbind
     exact ih e.on this oM⟩
    rw[hn]at this;cases this
 intro fuel
 induction fuel with
 |zero=>
  intro lp la a w hsp hsa h1 h2 hD h hc;refine full lp la a w _ hsa h1 h2 (λi hi=>?_) oM h.2;have hi':i<lp.size:=oM
  cases hb:lp.getD i false with
  |true=>rfl
  |false=>
   have:false∈lp.toList:=by
    simp[Array.getD,hi']at hb;rw[←hb];simp
   have:=Ja.2 this;omega
 |succ fuel ih=>
  intro lp la a w hsp hsa h1 h2 hD h hc
  cases hr:Region.ready .any (all.take m).toArray lp with
  |nil=>exact full lp la a w _ hsa h1 h2 (hdone lp hsp hr) oM (h.1 hr)
  |cons i0 r0=>
  have hi0:i0∈Region.ready .any (all.take m).toArray lp:=by rw[hr];exact .head _
  obtain⟨o0,ho0,hl0,he0⟩:=(zdT oM).1 hi0;obtain⟨hlt0,ho0⟩:=hto ho0;rw[show fuel+1+(all.length-m)=(fuel+(all.length-m))+1 by omega]
  have up:∀{i o},i<m->all[i]?=some o->(∀e∈o.after,Region.binds .any e=true->lp.getD e.on false=true)->∀e∈o.after,Region.binds .any e=true->la.getD e.on false=true:=λ{i o} hi ho hh e he hb=>by
   rw[h1 _ (by have:=hedges i o ho e he hb;omega)];exact hh e he hb
  refine⟨λhn=>?_,λi hi=>?_⟩
  ·have:i0∈Region.ready .any all.toArray la:=(zdT hsa).2 ⟨o0,ho0,by rw[h1 _ hlt0];exact hl0,up hlt0 ho0 he0⟩;rw[hn]at this;cases this
  obtain⟨o,ho,hl,he⟩:=(zdT hsa).1 hi;have hil:=(Xd.1 ho).1
  have him:i<m:=by
   refine XN λhge=>?_
   have:=hanc i0 i oM hil oM _ hD λo' ho' e he' hb=>by rw[ho]at ho';cases ho';exact he e he' hb
   rw[h1 _ hlt0,hl0]at this;cases this
  have hip:i∈Region.ready .any (all.take m).toArray lp:=(zdT oM).2 ⟨o,hback him ho,by rw[←h1 _ him];exact hl,λe he' hb=>by
   rw[←h1 _ (by have:=hedges i o ho e he' hb;omega)];exact he e he' hb⟩
  have hop:=h.2 i hip;have hi':i<lp.size:=oM;have hjf:lp[i]=false:=by have:=h1 i him;rw[hl]at this;simpa[Array.getD,hi'] using this.symm
  have hnext:∀a w,wpAny P .any (all.take m).toArray (zqw R) fuel (lp.setIfInBounds i true) a w->wpAnyIn F n P .any all.toArray Q (fuel+(all.length-m)) (la.setIfInBounds i true) a w:=λa w hh=>by
   have set1:∀(A:Array Bool) (q:Nat),i<A.size->((A.setIfInBounds i true).getD q false=true↔q=i∨A.getD q false=true):=λA q hA=>by
    by_cases e:i=q
    ·subst e;simp[Array.getD,hA]
    simp only[X6,KN e];exact⟨.inr,λh=>h.resolve_left λk=>e k.symm⟩
   refine ih _ _ a w (by simpa using hsp) (by simpa using hsa) (λq hq=>?_) (λq hq=>?_) (λq oq hq hoq e he' hb=>?_) hh ?_
   ·have e1:=set1 lp q hi';have e2:=set1 la q oM;rw[h1 q hq,←e1]at e2;exact Qw.2 e2
   ·have hne:i≠q:=by omega
    simp only[X6,KN hne];rw[←X6];exact h2 q hq
   ·refine(set1 la _ oM).2 (.inr ?_)
    rcases(set1 la q oM).1 hq with rfl|hq
    ·rw[ho]at hoq;cases hoq;exact he e he' hb
    exact hD q oq hq hoq e he' hb
   have hmem:false∈lp.toList:=by rw[←hjf];simp
   have hpos:=Ja.2 hmem
   have:(lp.setIfInBounds i true).toList.count false=lp.toList.count false-1:=by
    rw[QQ,List.count_set (by simpa using hi')];simp[hjf]
   omega
  have hg:=hgd i o him ho;have hw:∀y,Region.wanted o y=true:=λy=>by unfold Region.wanted;rw[hg]
  have hop':(all.take m).toArray[i]?=some o:=by simpa using hback him ho
  have ho':all.toArray[i]?=some o:=by simpa using ho
  unfold wpOp at hop;unfold wpOpIn;rw[hop']at hop;rw[ho'];dsimp only at hop ⊢;rw[Xe (hw _)]at hop ⊢;have hop:=hop.resolve_right λk=>by obtain⟨_,_,_,k⟩:=k;exact k
  exact hF.op (zkH hd (o:=o) (Xf ho)) (Oper.wp_only hnext hop)
def zqx(hF:yi F)(hm:P.follows .mixedOrders=true){Γ:List (TypeId×TI)}(hT:TOK P Γ){E:Env}{id:Nat}{ops:Array Oper}{K:St->Prop}{σ:St}{ρ:zi}{a:Act}{w:World}(hd:yX ops.toList=true)(ht:zmI ops.toList m=true)(hr:Rel E σ ρ a w)(hord:vl (ops.toList.take m)=true)(h:u6 P Γ true (ops.toList.take m) (ops.toList.take m) 0 σ K)(hK:∀σ ρ a w,K σ->Rel E σ ρ a w->wpListIn F n P ops Q (ops.toList.drop m) a w):(Code.region id ops true).wpIn F n P Q a w:=by
 have hml:=(zmJ ht).1;have hpre:=zdx (Q:=zqw λa w=>wpListIn F n P ops Q (ops.toList.drop m) a w) (ops:=(ops.toList.take m).toArray) hT hr (by simpa using hord) (by simpa using h) hK
 have hsz:(ops.toList.take m).toArray.size=m:=by
  have:ops.toList.length=ops.size:=by simp
  simp only[KK,Xo];omega
 rw[hsz]at hpre;refine wpIn_region_any hm ?_
 have:=zyu (F:=F) (n:=n) (Q:=Q) hF hd ht (R:=λa w=>wpListIn F n P ops Q (ops.toList.drop m) a w) (λa w h=>by simpa using h) m (Array.replicate m false) (Array.replicate ops.size false) a _ (by simp) (by simp)
  (λi hi=>by simp[Array.getD]) (λi hi=>by simp[Array.getD]) (λi o hi=>by simp[Array.getD]at hi) hpre (by simp)
 rw[show m+(ops.toList.length-m)=ops.size by
  have:ops.toList.length=ops.size:=by simp
  omega]at this
 simpa using this
end
def isY(L:List (Nat×SV))(o:Oper):Bool:=
 match o.op with
 |.call c=>(match c.callee with
  |.value (.tmp t)=>(match kK L t with
   |some (.val (.func (.yield _) _ _))=>true
   |_=>false)
  |_=>false)
 |_=>false
def zcP:List (Nat×SV)->List (Nat×SV)
 |[]=>[]
 |(t,s)::r=>match pfS s with
  |true=>(t,s)::zcP r
  |false=>(t,.junk)::zcP r
def zfG:∀{L:List (Nat×SV)} {t:Nat} {s:SV},kK (zcP L) t=some s->s=.junk∨(kK L t=some s/\pfS s=true)
 |[],_,_,h=>by cases h
 |(k,s0)::r,t,s,h=>by
  unfold zcP at h;rw[kq]
  split at h
  ·rename_i hp;rw[kq]at h
   by_cases e:k=t
   ·rw[Xe e]at h ⊢;cases h;exact .inr ⟨rfl,hp⟩
   rw[Xc e]at h ⊢;exact zfG h
  rw[kq]at h
  by_cases e:k=t
  ·rw[Xe e]at h;cases h;exact .inl rfl
  rw[Xc e]at h ⊢;exact zfG h
def zvu{L:List (Nat×SV)}{t:Nat}{s:SV}(h:kK (zcP L) t=some s):∃s',kK L t=some s':=by
 induction L with
 |nil=>cases h
 |cons p r ih=>
  obtain⟨k,s0⟩:=p;rw[kq]
  by_cases e:k=t
  ·rw[Xe e];exact⟨_,rfl⟩
  rw[Xc e];refine ih ?_;unfold zcP at h
  split at h <;> (rw[kq,Xc e]at h;exact h)
def St.yput(σ:St)(d:Option Tmp)(s:SV):St:=⟨putL (zcP σ.L) d s,σ.M,σ.nk,σ.nt,σ.n0⟩
def zsr(all:List Oper)(o:Oper)(σ:St)(run skip:St->Prop):Prop:=
 match o.guard with
 |none=>run σ
 |some (j,want)=>(match zdj all j with
  |none=>False
  |some t=>(match kK σ.L t with
   |some (.val (.bool true))=>(match want with
    |true=>run σ
    |false=>skip σ)
   |some (.val (.bool false))=>(match want with
    |false=>run σ
    |true=>skip σ)
   |some (.pr p _)=>(match want with
    |true=>Br (p->run (σ.put (some t) (.val (.bool true)))) (¬p->skip (σ.put (some t) (.val (.bool false))))
    |false=>Br (p->skip (σ.put (some t) (.val (.bool true)))) (¬p->run (σ.put (some t) (.val (.bool false)))))
   |some (.val (.tuple _))=>skip σ
   |_=>False))
def zqy{all:List Oper}{o:Oper}{σ:St}{run skip:St->Prop}(h:zsr all o σ run skip){E:Env}{ρ:zi}{a:Act}{w:World}(hr:Rel E σ ρ a w):
  ∃σ' b,qV all σ' o b/\Rel E σ' ρ a w/\(σ'.M=σ.M/\σ'.nt=σ.nt)/\((b=true/\run σ')∨(b=false/\skip σ')):=by
 unfold zsr at h
 split at h
 ·rename_i hg;exact⟨σ,true,by simp[qV,hg],hr,⟨rfl,rfl⟩,.inl ⟨rfl,h⟩⟩
 rename_i j want hg
 split at h
 ·exact h.elim
 rename_i t ht
 have gv:∀{σ':St} {v:Value},kK σ'.L t=some (.val v)->qV all σ' o (zti v want):=λhl=>by
  unfold qV;rw[hg];exact⟨t,_,ht,hl,rfl⟩
 have gi:∀{σ':St} {b:Bool},kK σ'.L t=some (.val (.bool b))->qV all σ' o (b==want):=λhl=>gv hl
 have put_look:∀(s1:SV),kK (σ.put (some t) s1).L t=some s1:=λs1=>by
  show kK ((t,s1)::σ.L) t=some s1;rw[kq];simp
 split at h
 ·rename_i hl
  split at h
  ·exact⟨σ,_,gi hl,hr,⟨rfl,rfl⟩,.inl ⟨rfl,h⟩⟩
  exact⟨σ,_,gi hl,hr,⟨rfl,rfl⟩,.inr ⟨rfl,h⟩⟩
 ·rename_i hl
  split at h
  ·exact⟨σ,_,gi hl,hr,⟨rfl,rfl⟩,.inl ⟨rfl,h⟩⟩
  exact⟨σ,_,gi hl,hr,⟨rfl,rfl⟩,.inr ⟨rfl,h⟩⟩
 ·rename_i p ip hl
  by_cases hp:p
  ·have hr':=hr.refine hl (zcB hp)
   split at h
   ·exact⟨_,_,gi (put_look _),hr',⟨rfl,rfl⟩,.inl ⟨rfl,h.yes hp⟩⟩
   exact⟨_,_,gi (put_look _),hr',⟨rfl,rfl⟩,.inr ⟨rfl,h.yes hp⟩⟩
  have hr':=hr.refine hl (za8 hp)
  split at h
  ·exact⟨_,_,gi (put_look _),hr',⟨rfl,rfl⟩,.inr ⟨rfl,h.no hp⟩⟩
  exact⟨_,_,gi (put_look _),hr',⟨rfl,rfl⟩,.inl ⟨rfl,h.no hp⟩⟩
 ·rename_i hl;exact⟨σ,_,gv hl,hr,⟨rfl,rfl⟩,.inr ⟨rfl,h⟩⟩
 exact h.elim
def yIs(L:List (Nat×SV))(c:Call)(l:Nat):Prop:=
 match c.callee with
 |.value (.tmp t)=>kK L t=some (.val (.func (.yield l) #[] #[]))
 |_=>False
def zyv(l:Nat){α:Type}(enc:α->List SV)(xs:List α)(o:Oper)(σ:St)(i:Nat)(b:Bool)(K:St->Nat->Bool->Prop):Prop:=
 match o.op with
 |.call c=>(match b with
  |true=>False
  |false=>evs σ.L c.args.toList λsvs=>yIs σ.L c l/\∃x,xs[i]?=some x/\ux.scalars (enc x)=true/\LEs svs (enc x)/\zkI σ.M/\
   zlS o.dst σ.nt (Br (K (σ.yput o.dst (.val (.bool true))) (i+1) false) (K (σ.yput o.dst (.val (.bool false))) i true)))
 |_=>False
def zdU(P:Program)(Γ:List (TypeId×TI))(l:Nat){α:Type}(enc:α->List SV)(xs:List α)(all r:List Oper):Nat->St->Nat->Bool->(St->Nat->Bool->Prop)->Prop:=
 List.rec (motive:=λ_=>Nat->St->Nat->Bool->(St->Nat->Bool->Prop)->Prop) (λ_ σ i b K=>K σ i b) (λo _ ih j σ i b K=>match isY σ.L o with
  |false=>u6 P Γ false all [o] j σ λσ'=>ih (j+1) σ' i b K
  |true=>zsr all o σ (λσ'=>zyv l enc xs o σ' i b λσ' i b=>ih (j+1) σ' i b K) (λσ'=>zaq o σ' λσ'=>ih (j+1) σ' i b K)) r
inductive YDr (A:Prop) (B:Nat->Prop):Prop
 |plain (h:A)
 |split (m:Nat) (h:B m)
def zyw(P:Program)(Γ:List (TypeId×TI))(l:Nat){α:Type}(enc:α->List SV)(xs:List α)(c:Code):St->Nat->Bool->(Ex->St->Nat->Bool->Prop)->Prop:=
 Code.rec (motive:=λ_=>St->Nat->Bool->(Ex->St->Nat->Bool->Prop)->Prop)
  (λσ i b Q=>Q .normal σ i b)
  (λid ops draw σ i b Q=>match yX ops.toList with
   |false=>False
   |true=>match draw with
   |false=>zdU P Γ l enc xs ops.toList ops.toList 0 σ i b (Q .normal)
   |true=>YDr (jH P Γ (.region id ops true) σ λe σ=>(match e with
    |.normal=>Q .normal σ i b
    |_=>False)) λm=>Ob (uw (yX ops.toList) (uw (zmI ops.toList m) (vl (ops.toList.take m)))=true)
     (u6 P Γ true (ops.toList.take m) (ops.toList.take m) 0 σ λσ=>zdU P Γ l enc xs ops.toList (ops.toList.drop m) m σ i b (Q .normal)))
  (λ_ _ ha hb σ i b Q=>ha σ i b λe σ i b=>(match e with
   |.normal=>hb σ i b Q
   |.exit id=>Q (.exit id) σ i b
   |.ret=>Q .ret σ i b))
  (λc _ _ hx hy σ i b Q=>ev σ.L c λc=>(match c with
   |.val (.bool true)=>hx σ i b Q
   |.val (.bool false)=>hy σ i b Q
   |.pr p _=>Br (p->hx σ i b Q) (¬p->hy σ i b Q)
   |.anyb=>Br (hx σ i b Q) (hy σ i b Q)
   |_=>False))
  (λid _ hc σ i b Q=>hc σ i b λe σ i b=>(match e with
   |.normal=>Q .normal σ i b
   |.exit j=>(match Nat.beq j id with
    |true=>Q .normal σ i b
    |false=>Q (.exit j) σ i b)
   |.ret=>Q .ret σ i b))
  (λ_ hc σ i b Q=>∃(ι:Type) (S:ι->St) (T:ι->Nat) (I:ι->Prop) (μ:ι->Nat) (x0:ι),I x0/\Sub σ (S x0)/\i=T x0/\b=false/\
   ∀x,I x->hc (S x) (T x) false λe σ' i' b'=>(match e with
    |.normal=>∃x',I x'/\Sub σ' (S x')/\i'=T x'/\b'=false/\μ x'<μ x
    |.exit id=>Q (.exit id) σ' i' b'
    |.ret=>Q .ret σ' i' b'))
  (λ_ _ _ _ _ _ _ _ _ _=>False)
  (λid σ i b Q=>Q (.exit id) σ i b)
  (λ_ _ _ _ _ _=>False)
  (λ_ σ i b Q=>Q .normal σ i b)
  (λ_ _ _ _ _=>False)
  (λσ i b Q=>Q .ret σ i b)
  (λ_ _ _ _ _=>False)
  c
section it
variable{P:Program}{Γ:List (TypeId×TI)}{α:Type}{enc:α->List SV}{xs:List α}{l:Nat}{J:Nat->(Nat->Prop)->(Nat->Prop)->World->Prop}{Jx:(Nat->Prop)->(Nat->Prop)->World->Prop}
section
def Jt(J:Nat->(Nat->Prop)->(Nat->Prop)->World->Prop)(Jx:(Nat->Prop)->(Nat->Prop)->World->Prop)(i:Nat)(b:Bool):(Nat->Prop)->(Nat->Prop)->World->Prop:=
 match b with
 |false=>J i
 |true=>Jx
structure RI (J:Nat->(Nat->Prop)->(Nat->Prop)->World->Prop) (Jx:(Nat->Prop)->(Nat->Prop)->World->Prop) (E:Env) (SA SB:Nat->Prop) (σ:St) (i:Nat) (b:Bool) (ρ:zi) (a:Act) (w:World):Prop where
 rel:Rel E σ ρ a w
 ds:E.ds=[]
 sa:∀b,SA b->E.Keep b
 sb:∀b,Own σ.M ρ b->SB b
 dj:∀b,SB b->¬SA b/\b<w.heap.size
 lt:∀b,SA b->b<w.heap.size
 j:Jt J Jx i b SA SB w
def zqz(J:Nat->(Nat->Prop)->(Nat->Prop)->World->Prop)(Jx:(Nat->Prop)->(Nat->Prop)->World->Prop)(Q:Ex->St->Nat->Bool->Prop):Exit->Act->World->Prop
 |.normal,a,w=>∃E SA SB σ i b ρ,Q .normal σ i b/\RI J Jx E SA SB σ i b ρ a w
 |.exit id,a,w=>∃E SA SB σ i b ρ,Q (.exit id) σ i b/\RI J Jx E SA SB σ i b ρ a w
 |.ret,a,w=>∃E SA SB σ i b ρ,Q .ret σ i b/\RI J Jx E SA SB σ i b ρ a w
 |_,_,_=>False
variable{E:Env}{SA:Nat->Prop}{SB:Nat->Prop}{σ:St}{σ':St}{i:Nat}{b:Bool}{ρ:zi}{a:Act}{w':World}
def RI.next{ρ':zi}{a':Act}{w:World}(hS:∀i b SA SB SB' W W',Jt J Jx i b SA SB W->Mv SB SB' W W'->(∀b,SB' b->¬SA b/\b<W'.heap.size)->Jt J Jx i b SA SB' W')(h:RI J Jx E SA SB σ i b ρ a w)(h':Rel ⟨w,E.ρ0,E.Keep,Own σ.M ρ,E.ds⟩ σ' ρ' a' w'):RI J Jx ⟨w,E.ρ0,E.Keep,Own σ.M ρ,E.ds⟩ SA (λb=>SB b∨Own σ'.M ρ' b) σ' i b ρ' a' w':=by
 have hs:=h'.stp
 have hdj:∀b,(SB b∨Own σ'.M ρ' b)->¬SA b/\b<w'.heap.size:=λb hb=>hb.elim (λhb=>⟨(h.dj b hb).1,Xw (h.dj b hb).2 hs.size⟩)
  λho=>⟨λhk=>(h'.mem.old b ho).2 (h.sa b hk),(h'.mem.old b ho).1⟩
 refine⟨h',h.ds,h.sa,λ_ hb=>.inr hb,hdj,λb hb=>Xw (h.lt b hb) hs.size,hS i b SA SB _ w w' h.j ⟨⟨hs.os,hs.tape,hs.output,hs.size,λb hb hn=>hs.block b hb λho=>hn (h.sb b ho),λb hb=>?_,λ_ _ h=>h⟩,λg v hg _=>h'.mem.glc hg⟩ hdj⟩;exact hb.elim .inl λho=>(hs.own b ho).imp (h.sb b) id
def RI.sub{w:World}(hS:∀i b SA SB SB' W W',Jt J Jx i b SA SB W->Mv SB SB' W W'->(∀b,SB' b->¬SA b/\b<W'.heap.size)->Jt J Jx i b SA SB' W')(h:RI J Jx E SA SB σ i b ρ a w)(hs:Sub σ σ'):∃E SB ρ,RI J Jx E SA SB σ' i b ρ a w:=by
 obtain⟨ρ',hr⟩:=hs _ ρ a w h.rel.cut;exact⟨_,_,ρ',h.next hS hr⟩
def zvv{o:Oper}{c:Call}{t:Nat}(ho:o.op=.call c)(hc:c.callee=.value (.tmp t)){w:World}(hf:a.eval (.tmp t)=.func (.yield l) #[] #[]){n:Next}{args:List Value}(ha:c.args.toList.map a.eval=args)(h:(Instr.yield l (List.toArray args)).run P w=.ok n w')(ro:Option Nat):(o.semAt ro a.eval).run P w=.ok n w':=by
 rw[Oper.semAt_eq _ _ _ (by rw[ho];intro c h;cases h)];have hmap:c.args.map a.eval=List.toArray args:=by apply QI;simp[ha]
 simp only[execOp,ho,resolve,hc,hf,hmap,Deferred.ofValue,invoke,Sem.run_bind,Sem.run_pure,Result.andThen_ok]
 simpa using h
end
end it
section it
variable{P:Program}{Γ:List (TypeId×TI)}{α:Type}{enc:α->List SV}{xs:List α}{l:Nat}{J:Nat->(Nat->Prop)->(Nat->Prop)->World->Prop}{Jx:(Nat->Prop)->(Nat->Prop)->World->Prop}
def zkK(J:Nat->(Nat->Prop)->(Nat->Prop)->World->Prop)(Jx:(Nat->Prop)->(Nat->Prop)->World->Prop):Prop:=
 ∀i b SA SB SB' W W',Jt J Jx i b SA SB W->Mv SB SB' W W'->(∀b,SB' b->¬SA b/\b<W'.heap.size)->Jt J Jx i b SA SB' W'
def zhJ(P:Program)(l:Nat)(enc:α->List SV)(xs:List α)(J:Nat->(Nat->Prop)->(Nat->Prop)->World->Prop)(Jx:(Nat->Prop)->(Nat->Prop)->World->Prop):Prop:=
 ∀i x SA SB W args,xs[i]?=some x->J i SA SB W->(∀b,SA b->b<W.heap.size)->(∀b,SB b->¬SA b/\b<W.heap.size)->(∀S,Ds S W (enc x) args)->
  YieldAt Fence.wide 0 P l (List.toArray args) W λe W'=>∃SA':Nat->Prop,Mv SA SA' W W'/\(∀b,SA' b->¬SB b/\b<W'.heap.size)/\
   ((e=.returned (.bool true)/\J (i+1) SA' SB W')∨(e=.returned (.bool false)/\Jx SA' SB W'))
def zyx{L:List (Nat×SV)}{o:Oper}(h:isY L o=true):∃c t l' a b,o.op=.call c/\c.callee=.value (.tmp t)/\kK L t=some (.val (.func (.yield l') a b)):=by
 unfold isY at h
 split at h
 ·rename_i c hc
  split at h
  ·rename_i t ht
   split at h
   ·rename_i l' a b hl;exact⟨c,t,l',a,b,hc,ht,hl⟩
   cases h
  cases h
 cases h
def zvw{S S' Pm:Nat->Prop}{ρ:zi}{w w':World}{svs:List SV}{vs:List Value}(hs:ux.scalars svs=true)(h:Gs S Pm ρ w svs vs):Ds S' w' svs vs:=
 ⟨h.1,λj s v h1 h2=>vK (uS hs j s h1) (h.2 j s v h1 h2)⟩
def yi.round{F:Fence}(h:yi F){n:Nat}{f:FuncId}{tmps:Array Value}{assign body:Code}{w:World}{R:Ending->World->Prop}(hr:RoundIn Fence.wide 0 P l f tmps assign body w R):RoundIn F n P l f tmps assign body w R:=
 ⟨h.fn f,λc cs _=>let ⟨e,w',r,s⟩:=hr.2 c cs (room_wide _);⟨e,w',r,h.comes (comesIn_wide.1 s)⟩⟩
def zmK{F:Fence}(hF:yi F){n:Nat}(hT:TOK P Γ)(hS:zkK J Jx)(hY:zhJ P l enc xs J Jx){all:List Oper}{Q:Ex->St->Nat->Bool->Prop}:∀{r:List Oper} {j:Nat} {E:Env} {SA SB:Nat->Prop} {σ:St} {i:Nat} {b:Bool} {ρ:zi} {a:Act} {w:World},yX r=true->RI J Jx E SA SB σ i b ρ a w->
   zdU P Γ l enc xs all r j σ i b (Q .normal)->wpListIn F n P all.toArray (zqz J Jx Q) r a w
 |[],j,E,SA,SB,σ,i,b,ρ,a,w,_,hr,h=>⟨E,SA,SB,σ,i,b,ρ,h,hr⟩
 |o::r,j,E,SA,SB,σ,i,b,ρ,a,w,hd,hr,h=>by
  have hd':zqt o=true/\yX r=true:=by unfold yX at hd ⊢;rw[Yx,XA]at hd;exact hd
  simp only[zdU]at h
  split at h
  ·-- an operation like any other
   obtain⟨σ',run,svs,s,md,h1,hg,href,hdst,hrun⟩:=zgd hT hr.rel h;have h1:zdU P Γ l enc xs all r (j+1) (σ'.app o.dst s md) i b (Q .normal):=h1
   have hr':Rel E σ' ρ a w:=by
    rcases href with rfl|⟨t,s0,s1,h2,h3,rfl⟩
    ·exact hr.rel
    exact hr.rel.refine h2 h3
   have hnt:σ'.nt=σ.nt:=by rcases href with rfl|⟨t,s0,s1,h2,h3,rfl⟩ <;> rfl
   have hM:σ'.M=σ.M:=by rcases href with rfl|⟨t,s0,s1,h2,h3,rfl⟩ <;> rfl
   have hri:RI J Jx E SA SB σ' i b ρ a w:=⟨hr',hr.ds,hr.sa,λb hb=>hr.sb b (hM ▸ hb),hr.dj,hr.lt,hr.j⟩;have hcut:=hr'.cut;unfold wpListIn;rw[hr'.wanted hg]
   obtain⟨rfl,hst⟩|⟨rfl,rfl,rfl⟩:=hrun
   ·simp only[if_true];refine hF.op (zfF hd'.1) ((hst.does hcut).wp λv w' ha=>?_);obtain⟨ρ',hrel⟩:=hcut.app (λt e=>hnt ▸ hdst t e) ha;exact zmK hF hT hS hY hd'.2 (hri.next hS hrel) h1
   simp only[Kr,if_false];obtain⟨ρ',hrel⟩:=hcut.app (λt e=>hnt ▸ hdst t e) (uT hcut.mem);exact⟨λf _=>hF.fn f,zmK hF hT hS hY hd'.2 (hri.next hS hrel) h1⟩
  -- the call of yield
  rename_i hy;obtain⟨c,t,l',x0,y0,ho,hc,hlk⟩:=zyx hy;obtain⟨σ',run,hg,hr',⟨hM,hnt⟩,hrun⟩:=zqy h hr.rel;have hri:RI J Jx E SA SB σ' i b ρ a w:=⟨hr',hr.ds,hr.sa,λb hb=>hr.sb b (hM ▸ hb),hr.dj,hr.lt,hr.j⟩;unfold wpListIn;rw[hr'.wanted hg]
  obtain⟨rfl,hgo⟩|⟨rfl,hskip⟩:=hrun
  ·simp only[if_true];unfold zyv at hgo;rw[ho]at hgo;dsimp only at hgo
   cases b with
   |true=>exact hgo.elim
   |false=>
    dsimp only at hgo;obtain⟨svs,hgo,hev⟩:=zgb hgo;obtain⟨hyl,x,hx,hsc,hle,hpM,hgo⟩:=hgo;have hyl:kK σ'.L t=some (.val (.func (.yield l) #[] #[])):=by unfold yIs at hyl;rw[hc]at hyl;exact hyl
    have hval:=(hr'.regs t _ hyl).2.val_inv;obtain⟨hdst,hgo⟩:=qz hgo;have hgs:=hev (a:=a) (λt s _ hl=>(hr'.regs t s hl).2);have hargs:∀S,Ds S w (enc x) (c.args.toList.map a.eval):=λS=>zvw hsc (hle.gs hgs)
    obtain⟨fn,tmps,assign,body,hrun,hR⟩:=hY i x SA SB w _ hx hr.j hr.lt hr.dj hargs;refine⟨λf _=>hF.fn f,?_⟩;rw[zvv ho hc hval rfl hrun];refine⟨hF.need,(hF.round hR).mono ?_⟩
    rintro e W' ⟨SA',hmv,hdis,hres⟩
    have fin:∀(v:Bool) (i':Nat) (b':Bool),Jt J Jx i' b' SA' SB W'->zdU P Γ l enc xs all r (j+1) (σ'.yput o.dst (.val (.bool v))) i' b' (Q .normal)->
      wpListIn F n P all.toArray (zqz J Jx Q) r (a.put o.dst (.bool v)) W':=by
     intro v i' b' hj hvc
     have hno:∀b,b<w.heap.size->¬(E.Keep b∨Own σ'.M ρ b)->¬((E.Keep b∨SA' b)∨Own σ'.M ρ b)/\W'.heap[b]?=w.heap[b]? :=λb hb hn=>
      ⟨λhk=>hk.elim (λhk=>hk.elim (λhk=>hn (.inl hk)) λhs=>(hmv.own b hs).elim (λh=>hn (.inl (hr.sa b h))) λhge=>by omega) λho=>hn (.inr ho),hmv.block b hb λhs=>hn (.inl (hr.sa b hs))⟩
     have hcl:∀t s,kK (zcP σ'.L) t=some s->t<σ'.nt/\G (λb=>(E.Keep b∨SA' b)∨Own σ'.M ρ b) (Own σ'.M ρ) ρ W' s (a.tmps.getD t undef):=λt s hlk=>by
      obtain⟨s',hl'⟩:=zvu hlk;refine⟨(hr'.regs t s' hl').1,?_⟩
      rcases zfG hlk with rfl|⟨h1,h2⟩
      ·exact .d _ _ (.junk _)
      exact(hr'.regs t s h1).2.pf hmv.size hno h2
     have hmem:zK (λb=>E.Keep b∨SA' b) σ'.M ρ W':=
      (hr'.mem.few (K':=λb=>E.Keep b∨SA b) hpM λb hb=>hb.elim id (hr.sa b)).other hpM hmv λb hb=>⟨λho=>(hdis b hb).1 (hri.sb b ho),(hdis b hb).2⟩
     have hrel:Rel ⟨W',E.ρ0,λb=>E.Keep b∨SA' b,Own σ'.M ρ,E.ds⟩ (σ'.yput o.dst (.val (.bool v))) ρ (a.put o.dst (.bool v)) W':=by
      refine⟨?_,?_,λt s hlk=>?_,hmem,hr'.fresh,⟨rfl,rfl,.refl _,Xk _,λ_ _ _=>rfl,λ_ h=>.inl h,hr'.stp.rho⟩,hmem.kp,hr'.low⟩
      ·have:=hr'.size
       cases hd0:o.dst <;> simpa[Act.put,St.yput] using this
      ·have:=hr'.defers
       cases hd0:o.dst <;> simpa[Act.put] using this
      cases hd0:o.dst with
      |none=>
       rw[hd0]at hlk;exact hcl t s hlk
      |some d=>
       rw[hd0]at hlk;have hlk:kK ((d,.val (.bool v))::zcP σ'.L) t=some s:=hlk;rw[kq]at hlk;have hdlt:d<a.tmps.size:=by rw[hr'.size];exact hdst d hd0
       by_cases e:d=t
       ·rw[Xe e]at hlk
        cases hlk
        refine⟨e ▸ hdst d hd0,?_⟩;rw[zgc hdlt,Xe e];exact .d _ _ (.val _)
       rw[Xc e]at hlk;rw[zgc hdlt,Xc e];exact hcl t s hlk
     refine zmK hF hT hS hY hd'.2 ⟨hrel,hr.ds,λb hb=>.inr hb,hri.sb,λb hb=>⟨λhs=>(hdis b hs).1 hb,Xw (hr.dj b hb).2 hmv.size⟩,λb hb=>(hdis b hb).2,hj⟩ hvc
    obtain⟨rfl,hj⟩|⟨rfl,hj⟩:=hres
    ·exact fin true (i+1) false hj hgo.yes
    exact fin false i true hj hgo.no
  simp only[Kr,if_false];unfold zaq at hskip;obtain⟨hdst,hskip⟩:=qz hskip;have hcut:=hr'.cut;obtain⟨ρ',hrel⟩:=hcut.app hdst (uT hcut.mem);exact⟨λf _=>hF.fn f,zmK hF hT hS hY hd'.2 (hri.next hS hrel) hskip⟩
def u3{F:Fence}(hF:yi F){n:Nat}(hT:TOK P Γ)(hm:P.follows .mixedOrders=true)(hS:zkK J Jx)(hY:zhJ P l enc xs J Jx):
  ∀(c:Code) {E:Env} {SA SB:Nat->Prop} {σ:St} {i:Nat} {b:Bool} {Q:Ex->St->Nat->Bool->Prop} {ρ:zi} {a:Act} {w:World},
   RI J Jx E SA SB σ i b ρ a w->zyw P Γ l enc xs c σ i b Q->c.wpIn F n P (zqz J Jx Q) a w
 |.skip,E,SA,SB,σ,i,b,Q,ρ,a,w,hr,h=>wpIn_skip ⟨E,SA,SB,σ,i,b,ρ,h,hr⟩
 |.region id ops draw,E,SA,SB,σ,i,b,Q,ρ,a,w,hr,h=>by
  cases draw with
  |false=>
   have h:(match yX ops.toList with|false=>False|true=>zdU P Γ l enc xs ops.toList ops.toList 0 σ i b (Q .normal)):=h
   split at h
   ·exact h.elim
   rename_i hd;refine wpIn_region_list ?_;have:=zmK (n:=n) hF hT hS hY hd hr h
   simpa using this
  |true=>
   have h:(match yX ops.toList with|false=>False|true=>YDr (jH P Γ (.region id ops true) σ (λe σ=>match e with|.normal=>Q .normal σ i b|_=>False)) (λm=>Ob (uw (yX ops.toList) (uw (zmI ops.toList m) (vl (ops.toList.take m)))=true)
     (u6 P Γ true (ops.toList.take m) (ops.toList.take m) 0 σ λσ=>zdU P Γ l enc xs ops.toList (ops.toList.drop m) m σ i b (Q .normal)))):=h
   split at h
   ·exact h.elim
   rename_i hd0
   rcases h with h|⟨m,h⟩
   ·refine wpIn_mono (zmC hF hT hm hd0 hr.rel.cut h) (λe a' w' hq=>?_)
    cases e with
    |normal=>obtain⟨σ',ρ',hq,hr'⟩:=hq;exact⟨_,SA,_,σ',i,b,ρ',hq,hr.next hS hr'⟩
    |exit id=>obtain⟨σ',ρ',hq,hr'⟩:=hq;exact hq.elim
    |ret=>obtain⟨σ',ρ',hq,hr'⟩:=hq;exact hq.elim
    |_=>exact hq.elim
   obtain⟨hc,h⟩:=h;obtain⟨hd,hc⟩:=kj hc;obtain⟨ht,hord⟩:=kj hc;refine zqx hF hm hT hd ht hr.rel.cut hord h λσ' ρ' a' w' hk hr'=>?_
   have hd':yX (ops.toList.drop m)=true:=XR.2 λo ho=>XR.1 hd o (KQ ho)
   have:=zmK (n:=n) hF hT hS hY hd' (hr.next hS hr') hk
   simpa using this
 |.seq x y,E,SA,SB,σ,i,b,Q,ρ,a,w,hr,h=>by
  refine wpIn_seq (wpIn_mono (u3 hF hT hm hS hY x hr h) (λe a' w' hq=>?_))
  cases e with
  |normal=>obtain⟨E',SA',SB',σ',i',b',ρ',h',hr'⟩:=hq;exact u3 hF hT hm hS hY y hr' h'
  |exit id=>exact hq
  |ret=>exact hq
  |_=>exact hq.elim
 |.cond c x y,E,SA,SB,σ,i,b,Q,ρ,a,w,hr,h=>by
  obtain⟨s,h,hs⟩:=zcA h;have hg:=hs (a:=a) (λt s _ hl=>(hr.rel.regs t s hl).2)
  split at h
  ·exact wpIn_cond_true hg.val_inv (u3 hF hT hm hS hY x hr h)
  ·exact wpIn_cond_false hg.val_inv (u3 hF hT hm hS hY y hr h)
  ·rename_i p ip
   by_cases hp:p
   ·exact wpIn_cond_true (by rw[hg.pr_inv];simp[hp]) (u3 hF hT hm hS hY x hr (h.yes hp))
   exact wpIn_cond_false (by rw[hg.pr_inv];simp[hp]) (u3 hF hT hm hS hY y hr (h.no hp))
  ·obtain⟨b',hb⟩:=hg.anyb_inv
   cases b' with
   |true=>exact wpIn_cond_true hb (u3 hF hT hm hS hY x hr h.yes)
   |false=>exact wpIn_cond_false hb (u3 hF hT hm hS hY y hr h.no)
  exact h.elim
 |.block id c,E,SA,SB,σ,i,b,Q,ρ,a,w,hr,h=>by
  refine wpIn_block (wpIn_mono (u3 hF hT hm hS hY c hr h) (λe a' w' hq=>?_))
  cases e with
  |normal=>exact hq
  |exit j=>
   obtain⟨E',SA',SB',σ',i',b',ρ',h',hr'⟩:=hq;dsimp only at h';show(if j=id then zqz J Jx Q .normal a' w' else zqz J Jx Q (.exit j) a' w')
   split at h'
   ·rename_i hb;rw[Xe (Xj hb)];exact⟨E',SA',SB',σ',i',b',ρ',h',hr'⟩
   rename_i hb;rw[Xc (KG hb)];exact⟨E',SA',SB',σ',i',b',ρ',h',hr'⟩
  |ret=>exact hq
  |_=>exact hq.elim
 |.loop c,E,SA,SB,σ,i,b,Q,ρ,a,w,hr,h=>by
  obtain⟨ι,S,T,I,μ,x0,h0,hsub,rfl,rfl,hround⟩:=h;obtain⟨E0,SB0,ρ0,hr0⟩:=hr.sub hS hsub;refine zax (λn a w=>∃x E SA SB ρ,I x/\μ x=n/\RI J Jx E SA SB (S x) (T x) false ρ a w) (μ x0) ⟨x0,E0,SA,SB0,ρ0,h0,rfl,hr0⟩ λn a w hI=>?_
  obtain⟨x,E1,SA1,SB1,ρ1,h1,rfl,hr1⟩:=hI;refine wpIn_mono (u3 hF hT hm hS hY c hr1 (hround x h1)) (λe a' w' hq=>?_)
  cases e with
  |normal=>
   obtain⟨E2,SA2,SB2,σ',i',b',ρ',⟨x',h2,hs2,rfl,rfl,hlt⟩,hr'⟩:=hq;obtain⟨E3,SB3,ρ3,hr3⟩:=hr'.sub hS hs2;exact⟨μ x',hlt,x',E3,SA2,SB3,ρ3,h2,rfl,hr3⟩
  |exit id=>exact hq
  |ret=>exact hq
  |_=>exact hq.elim
 |.exit id,E,SA,SB,σ,i,b,Q,ρ,a,w,hr,h=>wpIn_exit ⟨E,SA,SB,σ,i,b,ρ,h,hr⟩
 |.ret,E,SA,SB,σ,i,b,Q,ρ,a,w,hr,h=>wpIn_ret ⟨E,SA,SB,σ,i,b,ρ,h,hr⟩
 |.rangeFunc _ _ _ _,_,_,_,_,_,_,_,_,_,_,_,h=>by cases h
 |.scope _,_,_,_,_,_,_,_,_,_,_,_,h=>by cases h
 |.label _,E,SA,SB,σ,i,b,Q,ρ,a,w,hr,h=>wpIn_label ⟨E,SA,SB,σ,i,b,ρ,h,hr⟩
 |.goto _,_,_,_,_,_,_,_,_,_,_,_,h=>by cases h
 |.refuse _,_,_,_,_,_,_,_,_,_,_,_,h=>by cases h
def endI(n:Nat)(e:Ex)(_:St)(i:Nat)(b:Bool):Prop:=
 match e with
 |.exit _=>False
 |_=>b=true∨i=n
def zi2(hT:TOK P Γ)(hm:P.follows .mixedOrders=true){f:FuncId}{fn:Func}{c:Code}{caps:List SV}(hf:P.funcs[f]?=some fn)(hb:fn.body=some c)(hn:(fn.name== "runtime.NumGoroutine")=false)
  (hle:Nat.ble (caps.length+1) fn.ntmps=true) (hres:fn.results=#[]) (h:∀l:Nat,zyw P Γ l enc xs c ⟨jI 0 (.val (.func (.yield l) #[] #[])::caps),[],0,fn.ntmps,0⟩ 0 false (endI xs.length)):zfc P f caps enc xs:=by
 refine⟨⟨fn,hf,hn,by rw[hb];rfl⟩,λSA w vs l J Jx hlt hgl hcaps hSJ hSX hY h0=>?_⟩;refine callsIn_of_wp_marks hf hb trivial ?_ rfl
 have hrel:=vL (Keep:=SA) (M:=[]) (ρ:=λ_=>none) (w:=w) (args:=.val (.func (.yield l) #[] #[])::caps) (vs:=.func (.yield l) #[] #[]::vs) (nt:=fn.ntmps) (qr hlt hgl) (λ_ _=>rfl)
  ⟨by simp[hcaps.1],λj s v hs hv=>by
   cases j with
   |zero=>cases hs;cases hv;exact .d _ _ (.val _)
   |succ j=>exact .d _ _ ((hcaps.2 j s v (by simpa using hs) (by simpa using hv)).less λb hb=>hb.resolve_right zP)⟩ (by simpa using Xz hle)
 have hri:RI J Jx ⟨w,λ_=>none,SA,Own [] (λ_=>none),[]⟩ SA (λ_=>False) _ 0 false _ _ w:=⟨hrel,rfl,λ_ h=>h,λ_ hb=>absurd hb zP,λ_ h=>h.elim,hlt,h0⟩
 have hS:zkK J Jx:=λi b SA SB SB' W W' hj hmv hd=>by
  cases b with
  |false=>exact hSJ i SA SB SB' W W' hj hmv hd
  |true=>exact hSX SA SB SB' W W' hj hmv hd
 refine wpIn_mono (u3 yi.wide hT hm hS (λi x SA SB W args hx hj hA hB ha=>hY i x SA SB W args hx hj hA hB (ha _)) c hri (h l)) (λe a' w' hq=>?_)
 have fin:∀{E SA SB σ i b ρ},RI J Jx E SA SB σ i b ρ a' w'->(b=true∨i=xs.length)->LeavesInM Fence.wide 0 P fn a'.tmps (λe W'=>(∃v,e=.returned v)/\∃SA' SB',J xs.length SA' SB' W'∨Jx SA' SB' W') a'.defers .returning w':=by
  intro E SA SB σ i b ρ hr hd;rw[hr.rel.defers,hr.ds];refine⟨.tuple #[],by unfold results;rw[hres];simp,⟨_,rfl⟩,SA,SB,?_⟩;have hj:=hr.j
  cases b with
  |true=>exact .inr hj
  |false=>
   obtain rfl:=hd.resolve_left (by simp);exact .inl hj
 cases e with
 |normal=>obtain⟨E,SA,SB,σ,i,b,ρ,hq,hr⟩:=hq;exact fin hr hq
 |ret=>obtain⟨E,SA,SB,σ,i,b,ρ,hq,hr⟩:=hq;exact fin hr hq
 |exit id=>obtain⟨E,SA,SB,σ,i,b,ρ,hq,hr⟩:=hq;exact hq.elim
 |_=>exact hq.elim
end it
open Go.Proofs
section
def ptA(p:Pt):List SV:=[.agg (ptE p)]
def ztZ(F:FuncId)(cs:List SV)(n:Int):CG0 332 [i64 n,.fn F [.dptr cs,.loc 0 0]] [(0,.box 3 [i64 n])]
  (.dfn 393 [.dptr [i64 n],.dptr [.dfn F [.dptr cs,.dptr [i64 n]]]]) []:=by
 exact ziw 3 tok mix Tryz.func332 rfl rfl rfl<|.refl
def zAW{f:Int->Pt}{n k:Nat}(h:k<n):(zcc f n)[k]?=some (f ((k:Int)+1)):=by
 unfold zcc;rw[XD,Ql h];rfl
def zah(f:Int->Pt)(n:Nat):(zcc f n).length=n:=by unfold zcc;simp
def zmL(f:Int->Pt)(n:Nat):zcc f (n+1)=zcc f n++[f ((n:Int)+1)]:=by
 unfold zcc;rw[Kx,XB];rfl
def zqA(F:FuncId)(cs:List SV)(n:Int)(f:Int->Pt)(hn:0<=n/\n<=64)(h:∀i:Nat,i<n.toNat->CG0 F [i64 ((i:Int)+1),.dptr cs,.dptr [i64 n]] [] (.agg (ptE (f ((i:Int)+1)))) []):
  zfc Tryz.prog 393 [.dptr [i64 n],.dptr [.dfn F [.dptr cs,.dptr [i64 n]]]] ptA (zcc f n.toNat):=by
 refine zi2 (caps:=[.dptr [i64 n],.dptr [.dfn F [.dptr cs,.dptr [i64 n]]]]) (enc:=ptA) (xs:=zcc f n.toNat) tok mix Tryz.func393 rfl rfl rfl rfl (λl=>?_);refine⟨Nat,λk=>⟨[(0,.val (.func (.yield l) #[] #[])),(1,.dptr [i64 n]),(2,.dptr [.dfn F [.dptr cs,.dptr [i64 n]]]),(4,i64 ((k:Int)+1))],[],0,16,0⟩,λk=>k,λk=>k<=n.toNat,λk=>n.toNat-k,0,?_,?_,rfl,rfl,?_⟩
 ·exact Xh _
 ·exact zC []
 rintro k hk
 refine⟨λg=>?_,λg=>?_⟩
 ·have g:(k:Int)+1<=n:=g;refine zb.t (h k oM)<|⟨rfl,f ((k:Int)+1),zAW (show k<n.toNat by omega),rfl,.C .nil,(λ_ _ h=>by cases h),?_⟩;refine Br.mk ?_ ?_
  ·refine Ar.o ?_;refine⟨k+1,oM,jh [] ⟨rfl,rfl,rfl,Xg (λq=>some (i64 q)) oM,trivial⟩ trivial,rfl,rfl,by dsimp only;omega⟩
  exact .inl rfl
 have g:¬(k:Int)+1<=n:=g;exact .inr (by rw[zah];show k=n.toNat;omega)
def zCx(caps:List SV)(xs:List Pt)(h:zfc Tryz.prog 393 caps ptA xs)(hx:xs.length<=4096):CG0 331 [.dfn 393 caps] [] (.sl ptE xs) []:=by
 refine vf 1 tok mix Tryz.func331 rfl rfl rfl ?_
 refine⟨Pt,ptA,xs,1,[(3,.loc 0 0)],λj=>[(0,.box 127 [.own 1]),(1,.arr 28 ptE 2 (xs.take j))],λ_=>2,h,λ_=>rfl,⟨rfl,rfl,rfl,rfl⟩,
  zC [(0,some 0),(1,none)],⟨Xh _,rfl⟩,λj=>?_,?_,?_⟩
 ·intro k m hm;simp only[XZ,XW,or_false,KD]at hm
  obtain⟨_,rfl⟩|⟨_,rfl⟩:=hm
  ·rfl
  trivial
 ·intro j y hy _;have hlt:(xs.take j).length<=4096:=by rw[Xo];omega
  refine⟨Pt,ptE,[y],rfl,Ob.o0 ?_⟩;refine⟨[y],rfl,Ob.o3 ?_⟩;exact zu [0,4] ⟨rfl,Xg (λq=>some (Mem.arr 28 ptE 2 q)) (by rw[Xl,hy];rfl),trivial⟩
 refine λ_=>z0 ?_
 exact X5
def zvx(a b c:Pt)(i n:Int):CG0 333 [i64 i,.dptr (ptE a++ptE b++ptE c),.dptr [i64 n]] [] (.agg (ptE (yU a b c i n))) []:=by
 refine zc Tryz.func333 ?_;exact zb.t (zyn a b c i n)<|.refl
variable{a:Pt}{b:Pt}{c:Pt}{tol:Int}
def zkL(h:(jU a b c tol).2=0):zc5 a b c tol=(zcc (λi=>yU a b c i (jU a b c tol).1) (jU a b c tol).1.toNat,0):=by
 unfold zc5;rw[qK h]
def zhK(h:¬(jU a b c tol).2=0):zc5 a b c tol=([],(jU a b c tol).2):=by
 unfold zc5;rw[Xe h]
def zqB(c:List Pt×Int):SV:=.tup [.sl ptE c.1,i64 c.2]
def zhL{c:List Pt×Int}{a:List Pt}{b:Int}(h:c=(a,b)):LE (.tup [.sl ptE a,i64 b]) (zqB c):=by subst h;exact .refl
def zi3{c:List Pt×Int}{b:Int}(h:c=([],b)):LE (.tup [.val (.slice none 0 0),i64 b]) (zqB c):=by subst h;exact zM zD .refl
def zDT(a b c:Pt)(tol:Int)(ha:zr a)(hb:zr b)(hc:zr c):CG0 263 [.agg (ptE a++ptE b++ptE c),i64 tol] [] (zqB (zc5 a b c tol)) []:=by
 refine zc Tryz.func263 ?_;refine zfZ.data<|zb.t (zvq a b c tol ha hb hc)<|⟨λk=>?_,λk=>?_⟩
 ·exact zi3 (zhK k)
 have k:(jU a b c tol).2=0:=Xa.1 k;have ok:=(yP (show(kY _ tol _).2=0 from k)).1;have ok:1<=(jU a b c tol).1/\(jU a b c tol).1<=64:=ok;have e:=zkL k;generalize (jU a b c tol).1=n at*;refine zb.give [0] 0 [i64 n,.fn 333 [.dptr (ptE a++ptE b++ptE c),.loc 0 0]] [(0,.box 3 [i64 n])] [] _ (ztZ 333 (ptE a++ptE b++ptE c) n) LEs.refl rfl rfl rfl ⟨⟨_,rfl,rfl,rfl⟩,trivial⟩ rfl trivial<|zb.t (zCx _ _ (zqA 333 (ptE a++ptE b++ptE c) n (λi=>yU a b c i n) oM (λi _=>zvx a b c ((i:Int)+1) n)) (by rw[zah];omega)) ?_
 exact zhL e
def zDU(a b c:Pt)(tol:Int):CG0 293 [.agg (ptE a++ptE b++ptE c),i64 tol] [] (zqB (zc5 a b c tol)) []:=by
 refine zc Tryz.func293 ?_;refine zfZ.data<|zb.t (zvr a b c tol)<|⟨λk=>?_,λk=>?_⟩
 ·exact zi3 (zhK k)
 have k:(jU a b c tol).2=0:=Xa.1 k;have ok:=(yP (show(kY _ tol _).2=0 from k)).1;have ok:1<=(jU a b c tol).1/\(jU a b c tol).1<=64:=ok;have e:=zkL k;generalize (jU a b c tol).1=n at*;refine⟨Pt,ptE,[],rfl,Ob.o2 ?_⟩;refine⟨Nat,λi=>⟨[(2,.dptr (ptE a++ptE b++ptE c)),(6,i64 n),(8,.own 0),(9,i64 ((i:Int)+1))],[(0,.arr 28 ptE 2 (zcc (λi=>yU a b c i n) i))],1,33,0⟩,λi=>i<=n.toNat,λi=>n.toNat-i,0,?_,?_,?_⟩
 ·exact Xh _
 ·exact zf [0]
 rintro i hi
 have hlt:=zah (λi=>yU a b c i n) i;refine⟨λg=>?_,λg=>?_⟩
 ·have g:(i:Int)+1<=n:=g;refine zb.t (zyo a b c ((i:Int)+1) n)<|⟨Pt,ptE,[yU a b c ((i:Int)+1) n],rfl,Ob.o0 ?_⟩;refine⟨[yU a b c ((i:Int)+1) n],rfl,Ob.mk ⟨(by show _*(16:Int)<=_;simp only[hlt,Xn,Xr];omega),(by simp only[hlt,Xn,Xr];omega),dC,λ_ _=>rfl⟩ ?_⟩;refine Ar.o ?_;refine⟨i+1,oM,zT [2] ⟨rfl,rfl,rfl,Xg (λq=>some (i64 q)) oM,trivial⟩ ⟨Xg (λq=>some (Mem.arr 28 ptE 2 q)) (zmL _ _).symm,trivial⟩,by dsimp only;omega⟩
 have g:¬(i:Int)+1<=n:=g;have hi:i=n.toNat:=oM;subst hi;exact zhL e
def zvy(a b c d:Pt)(i n:Int):CG0 336 [i64 i,.dptr (ptE a++ptE b++ptE c++ptE d),.dptr [i64 n]] [] (.agg (ptE (yV a b c d i n))) []:=by
 refine zc Tryz.func336 ?_;exact zb.t (zyp a b c d i n)<|.refl
def zkM{d:Pt}(h:(jV a b c d tol).2=0):zc6 a b c d tol=(zcc (λi=>yV a b c d i (jV a b c d tol).1) (jV a b c d tol).1.toNat,0):=by
 unfold zc6;rw[qK h]
def zhM{d:Pt}(h:¬(jV a b c d tol).2=0):zc6 a b c d tol=([],(jV a b c d tol).2):=by
 unfold zc6;rw[Xe h]
def zDV(a b c d:Pt)(tol:Int)(ha:zr a)(hb:zr b)(hc:zr c)(hd:zr d):CG0 264 [.agg (ptE a++ptE b++ptE c++ptE d),i64 tol] [] (zqB (zc6 a b c d tol)) []:=by
 refine zc Tryz.func264 ?_;refine zfZ.data<|zb.t (zvs a b c d tol ha hb hc hd)<|⟨λk=>?_,λk=>?_⟩
 ·exact zi3 (zhM k)
 have k:(jV a b c d tol).2=0:=Xa.1 k;have ok:=(yP (show(kY _ tol _).2=0 from k)).1;have ok:1<=(jV a b c d tol).1/\(jV a b c d tol).1<=64:=ok;have e:=zkM k;generalize (jV a b c d tol).1=n at*;refine zb.give [0] 0 [i64 n,.fn 336 [.dptr (ptE a++ptE b++ptE c++ptE d),.loc 0 0]] [(0,.box 3 [i64 n])] [] _ (ztZ 336 (ptE a++ptE b++ptE c++ptE d) n) LEs.refl rfl rfl rfl ⟨⟨_,rfl,rfl,rfl⟩,trivial⟩ rfl trivial ?_
 exact zb.t (zCx _ _ (zqA 336 (ptE a++ptE b++ptE c++ptE d) n (λi=>yV a b c d i n) oM (λi _=>zvy a b c d ((i:Int)+1) n)) (by rw[zah];omega))<|zhL e
def zDW(a b c d:Pt)(tol:Int):CG0 294 [.agg (ptE a++ptE b++ptE c++ptE d),i64 tol] [] (zqB (zc6 a b c d tol)) []:=by
 refine zc Tryz.func294 ?_;refine zfZ.data<|zb.t (zvt a b c d tol)<|⟨λk=>?_,λk=>?_⟩
 ·exact zi3 (zhM k)
 have k:(jV a b c d tol).2=0:=Xa.1 k;have ok:=(yP (show(kY _ tol _).2=0 from k)).1;have ok:1<=(jV a b c d tol).1/\(jV a b c d tol).1<=64:=ok;have e:=zkM k;generalize (jV a b c d tol).1=n at*;refine⟨Pt,ptE,[],rfl,Ob.o2 ?_⟩;refine⟨Nat,λi=>⟨[(2,.dptr (ptE a++ptE b++ptE c++ptE d)),(6,i64 n),(8,.own 0),(9,i64 ((i:Int)+1))],[(0,.arr 28 ptE 2 (zcc (λi=>yV a b c d i n) i))],1,33,0⟩,λi=>i<=n.toNat,λi=>n.toNat-i,0,?_,?_,?_⟩
 ·exact Xh _
 ·exact zf [0]
 rintro i hi
 have hlt:=zah (λi=>yV a b c d i n) i;refine⟨λg=>?_,λg=>?_⟩
 ·have g:(i:Int)+1<=n:=g;refine zb.t (zyq a b c d ((i:Int)+1) n)<|⟨Pt,ptE,[yV a b c d ((i:Int)+1) n],rfl,Ob.o0 ?_⟩;refine⟨[yV a b c d ((i:Int)+1) n],rfl,Ob.mk ⟨(by show _*(16:Int)<=_;simp only[hlt,Xn,Xr];omega),(by simp only[hlt,Xn,Xr];omega),dC,λ_ _=>rfl⟩ ?_⟩;refine Ar.o ?_;refine⟨i+1,oM,zT [2] ⟨rfl,rfl,rfl,Xg (λq=>some (i64 q)) oM,trivial⟩ ⟨Xg (λq=>some (Mem.arr 28 ptE 2 q)) (zmL _ _).symm,trivial⟩,by dsimp only;omega⟩
 have g:¬(i:Int)+1<=n:=g;have hi:i=n.toNat:=oM;subst hi;exact zhL e
variable{α:Type _}{A:List α}{z:α}
def zss{y:α}{n:Nat}(h:(A++[z])[n]?=some y)(hn:n=A.length):y=z:=by
 subst hn;simp at h;exact h.symm
def zi4{w:α}{n:Nat}(hn:n=A.length):(A++[z]).set n w=A++[w]:=by
 subst hn;simp
def jF(cl:List Pl)(k:Nat)(b:SV):List (List SV):=cl.map plE++[[SV.own k,b]]
def zai(cl:List Pl)(k:Nat)(b:SV):(jF cl k b).length=cl.length+1:=by unfold jF;simp
def zqC(ks:List Nat)(κ:Nat)(cl:List Pl)(k:Nat)(p:Prop)(i:Decidable p):(jF cl k (.pr p i)).map (zaJ.rens ks κ)=jF cl (rn ks κ k) (.pr p i):=by
 unfold jF;rw[XB,List.map_map];rfl
def zyy{n k:Nat}(h:Nat.blt k n=true)(cl:List Pl)(p:Prop)(i:Decidable p):∀x∈jF cl k (.pr p i),vH.lows n x=true:=λx hx=>by
 rcases Xs.1 hx with hx|hx
 ·obtain⟨q,_,rfl⟩:=XP.1 hx;rfl
 rw[Xv.1 hx];simp only[vH.lows,vH,h]
def zyz{n k:Nat}(h:Nat.blt k n=true)(cl:List Pl)(p:Prop)(i:Decidable p):∀x∈jF cl k (.pr p i),zct.outs n x=true:=λx hx=>by
 rcases Xs.1 hx with hx|hx
 ·obtain⟨q,_,rfl⟩:=XP.1 hx;rfl
 rw[Xv.1 hx];simp only[zct.outs,zct,h]
def v8{tb:List (Nat×Option Nat)}{cl:List Pl}{a b:Nat}{p:Prop}{i:Decidable p}(h:zba tb b=some (some a)):
  (jF cl a (.pr p i)).length=(jF cl b (.pr p i)).length/\∀(j:Nat) x,(jF cl b (.pr p i))[j]?=some x->∃x',(jF cl a (.pr p i))[j]?=some x'/\ren.rens tb x=some x':=by
 refine⟨by rw[zai,zai],λj x hx=>?_⟩;unfold jF at hx ⊢;rw[KP]at hx
 split at hx
 ·rename_i hi;rw[XD]at hx
  cases hy:cl[j]? with
  |none=>simp[hy]at hx
  |some y=>
   simp[hy]at hx;subst hx;exact⟨plE y,by rw[XK hi,XD,hy];rfl,rfl⟩
 rename_i hi
 have h0:j-(cl.map plE).length=0:=by
  have:=(Xd.1 hx).1;simp at this;simp at hi ⊢;omega
 rw[h0]at hx;simp at hx;subst hx;refine⟨[.own a,.pr p i],by rw[XF oM,h0];rfl,?_⟩;simp only[ren.rens,ren,h]
def zgH(q:List Pt)(x:Pt):(yW q x).length<=q.length+1:=by
 unfold yW;split
 ·omega
 simp
def vu:∀(more q:List Pt),(kw q more).length<=q.length+more.length
 |[],q=>by simp[kw]
 |x::r,q=>by
  have h1:=vu r (yW q x);have h2:=zgH q x;have e:kw q (x::r)=kw (yW q x) r:=rfl;rw[e,Xn];omega
def zhN{q more:List Pt}{i:Nat}{x:Pt}(h:more[i]?=some x):kw q (more.take (i+1))=yW (kw q (more.take i)) x:=by
 unfold kw;rw[Xl,h];simp[KW]
variable{q:List Pt}{x:Pt}
def zop{z:Pt}(h:q[q.length-1]?=some z)(e:z=x):yW q x=q:=by
 unfold yW;rw[KU,h,e,Xe rfl]
def zi5{z:Pt}(h:q[q.length-1]?=some z)(e:¬z=x):yW q x=q++[x]:=by
 unfold yW;rw[KU,h,Xc (λk=>e (Xm k))]
def zoq(h:q.length=0):yW q x=q++[x]:=by
 rw[Xp h];rfl
def zDX(cl:List Pl)(q more:List Pt)(B:Prop)[iB:Decidable B](hq:q.length<=100000)(hm:more.length<=64)(hcl:cl.length<=300):
  CG0 188 [.eloc 0 2 (cl.length:Int) 0,.sl ptE more] [(0,.garr 143 2 (jF cl 1 (pr B))),(1,.arr 28 ptE 2 q)] (.tup [])
   [(0,.garr 143 2 (jF cl 2 (pr B))),(2,.arr 28 ptE 2 (kw q more))]:=by
 refine yy tok mix Tryz.func188 rfl rfl rfl ?_;intro hl1
 refine⟨Nat,λi=>⟨[(0,.eloc 0 2 (cl.length:Int) 0),(7,.sl ptE more),(8,i64 (more.length:Int)),(9,i64 (i:Int))],
   [(0,.garr 143 2 (jF cl 2 (pr B))),(2,.arr 28 ptE 2 (kw q (more.take i)))],3,43,2⟩,λi=>i<=more.length,λi=>more.length-i,0,?_,?_,?_⟩
 ·exact Xh _
 ·exact zu [0,1,1] ⟨⟨_,rfl,v8 rfl⟩,rfl,trivial⟩
 rintro i hi
 have hlen:=vu (more.take i) q;rw[Xo]at hlen;have hcell:∀{y:List SV} {k:Nat} {b:SV},(jF cl k b)[(cl.length:Int).toNat]?=some y->y=[.own k,b]:=λh=>zss h (by simp)
 have hcn:(cl.length:Int).toNat=(cl.map plE).length:=by simp
 have hset:∀(k:Nat) (b:SV) (w:List SV),(jF cl k b).set (cl.length:Int).toNat w=cl.map plE++[w]:=λk b w=>by unfold jF;exact zi4 hcn
 have hrow:0<=(cl.length:Int)/\(cl.length:Int)<(jF cl 2 (pr B)).length:=by rw[zai];omega
 refine⟨λg=>?_,λg=>?_⟩
 ·have g:(i:Int)<more.length:=g;refine Ob.o ?_;intro x hx;have hx:more[i]?=some x:=hx;have e:=zhN (q:=q) hx;refine Ob.mk hrow ?_;intro y hy;obtain rfl:=hcell hy;intro hl2
  have yes:kw q (more.take (i+1))=(kw q (more.take i))++[x]->∀{σ:St},Sub σ ⟨[(0,.eloc 0 2 (cl.length:Int) 0),(7,.sl ptE more),(8,i64 (more.length:Int)),(9,i64 ((i+1:Nat):Int))],
    [(0,.garr 143 2 (jF cl 2 (pr B))),(2,.arr 28 ptE 2 ((kw q (more.take i))++[x]))],3,43,2⟩->Sub σ ⟨[(0,.eloc 0 2 (cl.length:Int) 0),(7,.sl ptE more),(8,i64 (more.length:Int)),(9,i64 ((i+1:Nat):Int))],
    [(0,.garr 143 2 (jF cl 2 (pr B))),(2,.arr 28 ptE 2 (kw q (more.take (i+1))))],3,43,2⟩:=λh σ k=>by rw[h];exact k
  refine Dr.d<|Br.mk (λz=>?_) (λz=>?_)
  ·have z:((kw q (more.take i)).length:Int)=0:=z;refine Ob.mk (by kernel_rfl)<|Dr.d<|Ob.mk hrow ?_;intro y hy;obtain rfl:=hcell hy;refine⟨Pt,ptE,[x],rfl,Ob.o0 ?_⟩;refine⟨[x],rfl,Ob.o3 ?_⟩;refine Ob.mk hrow ?_;intro y hy;obtain rfl:=hcell hy;refine Ob.mk (by kernel_rfl)<|Ar.o ?_;refine⟨i+1,oM,yes (by rw[e,zoq oM]) (zu [0,1,5] ⟨⟨_,Xg (λq=>some (Mem.garr 143 2 q)) (hset _ _ _),v8 rfl⟩,rfl,trivial⟩),by dsimp only;omega⟩
  have z:¬((kw q (more.take i)).length:Int)=0:=z;refine Ob.mk hrow ?_;intro y hy;obtain rfl:=hcell hy;refine Ar.o<|Ob.o<|Ob.o ?_;intro t ht
  have ht:(kw q (more.take i))[(kw q (more.take i)).length-1]?=some t:=by
   have ht:(kw q (more.take i))[(((kw q (more.take i)).length:Int)-1).toNat]?=some t:=ht
   rwa [show(((kw q (more.take i)).length:Int)-1).toNat=(kw q (more.take i)).length-1 by omega]at ht
  refine Ob.mk (by kernel_rfl)<|⟨λk=>?_,λk=>?_⟩
  ·have k:¬t=x:=λh=>k (qi.2 h)
   refine Dr.d<|Ob.mk hrow ?_;intro y hy;obtain rfl:=hcell hy;refine⟨Pt,ptE,[x],rfl,Ob.o0 ?_⟩;refine⟨[x],rfl,Ob.o3 ?_⟩;refine Ob.mk hrow ?_;intro y hy;obtain rfl:=hcell hy;refine Ob.mk (by kernel_rfl)<|Ar.o ?_;refine⟨i+1,oM,yes (by rw[e,zi5 ht k]) (zu [0,1,5] ⟨⟨_,Xg (λq=>some (Mem.garr 143 2 q)) (hset _ _ _),v8 rfl⟩,rfl,trivial⟩),by dsimp only;omega⟩
  have k:t=x:=qi.1 (Xa.1 k);refine Ar.o ?_;refine⟨i+1,oM,zu [0,1,2] ⟨⟨_,rfl,v8 rfl⟩,Xg (λq=>some (Mem.arr 28 ptE 2 q)) (by rw[e,zop ht k]),trivial⟩,by dsimp only;omega⟩
 have g:¬(i:Int)<more.length:=g;have e:more.take i=more:=Xi oM;exact⟨_,.refl,Xg (λl=>[(0,Mem.garr 143 2 (jF cl 2 (pr B))),(2,Mem.arr 28 ptE 2 (kw q l))]) e,.refl⟩
def zDY(q more:List Pt)(hq:q.length<=100000)(hm:more.length<=64):
  CG0 217 [.own 0,.sl ptE more] [(0,.arr 28 ptE 2 q)] (.own 1) [(1,.arr 28 ptE 2 (kw q more))]:=by
 refine yy tok mix Tryz.func217 rfl rfl rfl<|⟨Nat,λi=>⟨[(0,.own 1),(1,.sl ptE more),(5,i64 (i:Int))],[(1,.arr 28 ptE 2 (kw q (more.take i)))],2,36,1⟩,λi=>i<=more.length,λi=>more.length-i,0,?_,?_,?_⟩
 ·exact Xh _
 ·exact zf [0,0]
 rintro i hi
 have hlen:=vu (more.take i) q;rw[Xo]at hlen;intro hl1;refine⟨λg=>?_,λg=>?_⟩
 ·have g:(i:Int)<more.length:=g;obtain⟨x,hx⟩:∃x,more[i]?=some x:=⟨_,Xb oM⟩;have e:=zhN (q:=q) hx;have same:∀{y:Pt},more[(i:Int).toNat]?=some y->y=x:=λh=>Xm ((show more[i]?=some _ from h).symm.trans hx)
  refine Dr.d ?_;intro hl2;refine⟨λz=>?_,λz=>?_⟩
  ·have z:((kw q (more.take i)).length:Int)=0:=z;refine Ob.mk (by kernel_rfl)<|Ob.o ?_;intro y hy;rw[same hy];refine⟨Pt,ptE,[x],rfl,Ob.o0 ?_⟩;refine⟨[x],rfl,Ob.o3 ?_⟩;refine Ar.o ?_;refine⟨i+1,oM,zu [0,3] ⟨Xg (λq=>some (Mem.arr 28 ptE 2 q)) (by rw[e,zoq oM]),trivial⟩,by dsimp only;omega⟩
  have z:¬((kw q (more.take i)).length:Int)=0:=z;intro hl3;refine Ar.o<|Ob.o<|Ob.o ?_;intro t ht
  have ht:(kw q (more.take i))[(kw q (more.take i)).length-1]?=some t:=by
   have ht:(kw q (more.take i))[(((kw q (more.take i)).length:Int)-1).toNat]?=some t:=ht
   rwa [show(((kw q (more.take i)).length:Int)-1).toNat=(kw q (more.take i)).length-1 by omega]at ht
  refine Ob.o ?_;intro y hy;rw[same hy];refine Ob.mk (by kernel_rfl)<|⟨λk=>?_,λk=>?_⟩
  ·have k:¬t=x:=λh=>k (qi.2 h)
   refine Ob.o ?_;intro y hy;rw[same hy];refine⟨Pt,ptE,[x],rfl,Ob.o0 ?_⟩;refine⟨[x],rfl,Ob.o3 ?_⟩;refine Ar.o ?_;refine⟨i+1,oM,zu [0,3] ⟨Xg (λq=>some (Mem.arr 28 ptE 2 q)) (by rw[e,zi5 ht k]),trivial⟩,by dsimp only;omega⟩
  have k:t=x:=qi.1 (Xa.1 k);refine Ar.o ?_;refine⟨i+1,oM,zu [0,1] ⟨Xg (λq=>some (Mem.arr 28 ptE 2 q)) (by rw[e,zop ht k]),trivial⟩,by dsimp only;omega⟩
 have g:¬(i:Int)<more.length:=g;have e:more.take i=more:=Xi oM;exact⟨_,.refl,Xg (λl=>[(1,Mem.arr 28 ptE 2 (kw q l))]) e,.refl⟩
variable{p:Pt}
def zqD{s:Sg}(h:s.v=3):kI p s tol=zc5 p s.a s.b tol:=by unfold kI;rw[Xe h]
def zqE{s:Sg}(h3:¬s.v=3)(h:s.v=4):kI p s tol=zc6 p s.a s.b s.c tol:=by unfold kI;rw[Xc h3,Xe h]
def zqF{s:Sg}(h3:¬s.v=3)(h:¬s.v=4):kI p s tol=([s.a],0):=by unfold kI;rw[Xc h3,Xc h]
def p_seg(p:Pt)(s:Sg)(tol:Int)(hp:zr p)(hs:zr s.a/\zr s.b/\zr s.c):CG0 187 [.agg (ptE p),.agg (sgE s),i64 tol] [] (zqB (kI p s tol)) []:=by
 refine zc Tryz.func187 ?_;refine⟨λh3=>?_,λh3=>?_⟩
 ·have h3:s.v=3:=h3;refine zb.t (zDT p s.a s.b tol hp hs.1 hs.2.1) ?_;rw[zqD h3];exact .refl
 have h3:¬s.v=3:=h3;refine⟨λh4=>?_,λh4=>?_⟩
 ·have h4:s.v=4:=h4;refine zb.t (zDV p s.a s.b s.c tol hp hs.1 hs.2.1 hs.2.2) ?_;rw[zqE h3 h4];exact .refl
 have h4:¬s.v=4:=h4;refine⟨Pt,ptE,[s.a],rfl,Ob.o0 ?_⟩;exact zhL (zqF h3 h4)
def r_seg(p:Pt)(s:Sg)(tol:Int):CG0 216 [.agg (ptE p),.agg (sgE s),i64 tol] [] (zqB (kI p s tol)) []:=by
 refine zc Tryz.func216 ?_;refine⟨λh3=>?_,λh3=>?_⟩
 ·have h3:s.v=3:=h3;refine zb.t (zDU p s.a s.b tol) ?_;rw[zqD h3];exact .refl
 have h3:¬s.v=3:=h3;refine⟨λh4=>?_,λh4=>?_⟩
 ·have h4:s.v=4:=h4;refine zb.t (zDW p s.a s.b s.c tol) ?_;rw[zqE h3 h4];exact .refl
 have h4:¬s.v=4:=h4;refine⟨Pt,ptE,[s.a],rfl,Ob.o0 ?_⟩;exact zhL (zqF h3 h4)
end
end Go.Gs
