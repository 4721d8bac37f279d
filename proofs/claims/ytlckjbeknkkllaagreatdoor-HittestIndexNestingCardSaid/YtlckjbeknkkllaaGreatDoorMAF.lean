/- A region that draws its order: the run in the order of its text serves for every order. -/
import Derived.Test.YtlckjbeknkkllaaGreatDoorMAE
import Derived.Deep.LoopGhost
import Derived.Scope
set_option maxRecDepth 100000
set_option maxHeartbeats 8000000
set_option linter.all false
namespace Go.Gs
section
def Down(all:List Oper)(D:LG):Prop:=∀i o,D i->all[i]?=some o->∀e∈o.after,Region.binds .any e=true->D e.on
def Anc(all:List Oper)(j i:Nat):Prop:=∀D:LG,Down all D->(∀o,all[j]?=some o->∀e∈o.after,Region.binds .any e=true->D e.on)->D i
def zdI(all:List Oper)(n:Nat):(zaV all n).length=n:=by
 induction n with
 |zero=>rfl
 |succ n ih=>simp[zaV,ih]
def zln(all:List Oper):∀(n j:Nat),j<n->(zaV all n)[j]?=some (match all[j]? with|some o=>zq4 (zaV all j) o|none=>0)
 |0,j,h=>oM
 |n+1,j,h=>by
  simp only[zaV]
  by_cases hj:j<n
  ·rw[XH (by rw[zdI];exact hj)];exact zln all n j hj
  have:j=n:=by omega
  subst this;rw[XB (by rw[zdI];omega),zdI];simp;rfl
def zcT(all:List Oper):∀(n j i:Nat),j<n->((zaV all n).getD j 0).testBit i=true->Anc all j i:=by
 intro n j
 induction j using Nat.strongRecOn generalizing n with
 |_ j ih=>
  intro i hj hbit D hD hedges;have hg:=zln all n j hj;rw[Xn,hg]at hbit
  cases ho:all[j]? with
  |none=>simp[ho]at hbit
  |some o=>
   simp only[ho,KS]at hbit;unfold zq4 at hbit
   have key:∀(es:List Edge) (s0:Nat),(∀e∈es,e∈o.after)->(s0.testBit i=true->D i)->
     (es.foldl (λs e=>if Region.binds .any e then s|||2^e.on|||(zaV all j).getD e.on 0 else s) s0).testBit i=true->D i:=by
    intro es
    induction es with
    |nil=>intro s0 _ h0 h;exact h0 h
    |cons e es ihe=>
     intro s0 hes h0 h;simp only[KH]at h;refine ihe _ (λe' he'=>hes e' (.tail _ he')) ?_ h;intro hb
     split at hb
     ·rename_i hbind;simp only[Nat.testBit_or,JI]at hb;have hde:D e.on:=hedges o ho e (hes e (.head _)) hbind
      rcases hb with(hb|hb)|hb
      ·exact h0 hb
      ·rw[Nat.testBit_two_pow]at hb;have:e.on=i:=by simpa using hb
       exact this ▸ hde
      by_cases hlt:e.on<j
      ·refine ih e.on hlt j i hlt hb D hD λo' ho'=>hD e.on o' hde ho'
      rw[Xn,XF (by rw[zdI];omega)]at hb;simp at hb
     exact h0 hb
   exact key o.after.toList 0 (λe he=>by simpa using he) (λh=>by simp at h) hbit
def zri{all:List Oper}(h:uD all=true):(∀j o,all[j]?=some o->∀e∈o.after,Region.binds .any e=true->e.on<j)/\
  ∀i j oi oj,i<j->all[i]?=some oi->all[j]?=some oj->zuF all oi oj=true->Anc all j i:=by
 unfold uD at h;simp only[XC]at h;obtain⟨h1,h2⟩:=h;refine⟨λj o ho e he hb=>?_,λi j oi oj hij hi hj hc=>?_⟩
 ·have hjl:j<all.length:=(Xd.1 ho).1;have:=XV.1 h1 j (XT.2 hjl);simp only[ho]at this;have:=XV.1 this e (by simpa using he);simp only[hb,QF,QQ]at this;exact Xx this
 have hjl:j<all.length:=(Xd.1 hj).1;have:=XV.1 h2 j (XT.2 hjl);have:=XV.1 this i (XT.2 hij);simp only[hi,hj,hc,QF,YE]at this;exact zcT all all.length j i hjl this
def zuO{all:List Oper}{i:Nat}(h:zmU all i=true):∀j oj,i<j->all[j]?=some oj->zcs oj.op=true->Anc all j i:=by
 intro j oj hij hj hu;unfold zmU at h;have hjl:j<all.length:=(Xd.1 hj).1;have:=XV.1 h j (XT.2 hjl)
 have hnb:Nat.ble j i=false:=by
  cases hb:Nat.ble j i with
  |false=>rfl
  |true=>have:=Xx hb;omega
 simp only[hj,hu,hnb,QF,YE,QQ]at this;exact zcT all all.length j i hjl this
def ziT{a b:LB}{t:Nat}(h1:t∈a)(h2:t∈b):zcJ a b=true:=by
 unfold zcJ;exact List.any_eq_true.2 ⟨t,h1,List.any_eq_true.2 ⟨t,h2,K4 t⟩⟩
def zel(σ' σ:St):Prop:=σ'.M=σ.M/\σ'.nk=σ.nk/\σ'.nt=σ.nt/\σ'.n0=σ.n0/\∀t s',z6 σ'.L t=some s'->∃s0,z6 σ.L t=some s0/\∀S Pm ρ w v,G S Pm ρ w s0 v->G S Pm ρ w s' v
def zel.refl{σ:St}:zel σ σ:=⟨rfl,rfl,rfl,rfl,λ_ s h=>⟨s,h,λ_ _ _ _ _ h=>h⟩⟩
structure Lex0 (P:Program) (all:List Oper) (E:Env) (σ0:St) (i0:Nat) (T:Nat->St) (s:Nat->SV) (md:Nat->MD) (run:Nat->Bool) (svs:Nat->LQ):Prop where
 start:zel (T i0) σ0
 next:∀j o,i0<=j->all[j]?=some o->zel (T (j+1)) ((T j).app o.dst (s j) (md j))
 dst:∀j o,i0<=j->all[j]?=some o->∀t,o.dst=some t->t<σ0.nt
 guard:∀j o,i0<=j->all[j]?=some o->qB all (T j) o (run j)
 step:∀j o,i0<=j->all[j]?=some o->(run j=true/\zll P true all j o (T j) (svs j) (s j) (md j))∨(run j=false/\s j=.val undef/\md j=.none)
 pw:∀j,i0<=j->j<=all.length->(T j).M.Pairwise λa b=>a.1≠b.1
def ziU{P:Program}{Γ:LS}(hT:TOK P Γ){all:List Oper}{E:Env}{K:St->Prop}:∀(l:List Oper) (i:Nat) (σ:St) (ρ:ze) (a:Act) (w:World),i+l.length=all.length->
  (∀j,l[j]?=all[i+j]?)->Rel E σ ρ a w->uu P Γ true all l i σ K->∃T s md run svs,Lex0 P all E σ i T s md run svs/\K (T all.length)
 |[],i,σ,ρ,a,w,hlen,hl,hr,h=>by
  have hi:i=all.length:=by simpa using hlen
  subst hi;refine⟨λ_=>σ,λ_=>.junk,λ_=>.none,λ_=>false,λ_=>[],⟨.refl,?_,?_,?_,?_,λ_ _ _=>hr.mem.keys⟩,h⟩ <;>
  ·intro j o hj ho;have:=(Xd.1 ho).1;omega
 |o::r,i,σ,ρ,a,w,hlen,hl,hr,h=>by
  have h0:all[i]?=some o:=by simpa using (hl 0).symm
  obtain⟨σ',run0,svs0,s0,md0,h1,hg,href,hd,hrun⟩:=zfy hT hr h
  have hr':Rel E σ' ρ a w:=by
   rcases href with rfl|⟨t,s0,s1,h2,h3,rfl⟩
   ·exact hr
   exact hr.refine h2 h3
  have hnt:σ'.nt=σ.nt:=by rcases href with rfl|⟨t,s0,s1,h2,h3,rfl⟩ <;> rfl
  have href':zel σ' σ:=by
   rcases href with rfl|⟨t,s2,s1,h2,h3,rfl⟩
   ·exact .refl
   refine⟨rfl,rfl,rfl,rfl,λt' s' hl'=>?_⟩;have hl':(if t=t' then some s1 else z6 σ.L t')=some s':=by rw[←zK];exact hl'
   by_cases e:t=t'
   ·subst e;rw[Xe rfl]at hl';cases hl'
    exact⟨s2,h2,h3⟩
   rw[Xb e]at hl';exact⟨s',hl',λ_ _ _ _ _ h=>h⟩
  have hnext:∃ρ1 a1 w1,Rel E (σ'.app o.dst s0 md0) ρ1 a1 w1:=by
   obtain⟨_,hst⟩|⟨_,rfl,rfl⟩:=hrun
   ·obtain⟨v,w1,ha⟩:=(hst.does hr').ex;obtain⟨ρ1,hr1⟩:=hr'.app (λt e=>hnt ▸ hd t e) ha;exact⟨ρ1,_,w1,hr1⟩
   obtain⟨ρ1,hr1⟩:=hr'.app (λt e=>hnt ▸ hd t e) (ub hr'.mem);exact⟨ρ1,_,w,hr1⟩
  obtain⟨ρ1,a1,w1,hr1⟩:=hnext;obtain⟨T,s,md,run,svs,hlex,hK⟩:=ziU hT r (i+1) _ ρ1 a1 w1 (by simp at hlen;omega) (λj=>by have:=hl (j+1);simpa[KE,Q0 1 j] using this) hr1 h1;have hapn:(σ'.app o.dst s0 md0).nt=σ.nt:=hnt;have hil:i<all.length:=(Xd.1 h0).1
  refine⟨λj=>if j=i then σ' else T j,λj=>if j=i then s0 else s j,λj=>if j=i then md0 else md j,λj=>if j=i then run0 else run j,λj=>if j=i then svs0 else svs j,
   ⟨by simpa using href',?_,?_,?_,?_,?_⟩,by simpa[show all.length≠i by omega] using hK⟩
  ·intro j oj hj ho
   by_cases e:j=i
   ·subst e;rw[h0]at ho;cases ho
    simpa using hlex.start
   have:=hlex.next j oj oM ho
   simpa[e,show j+1≠i by omega] using this
  ·intro j oj hj ho t ht
   by_cases e:j=i
   ·subst e;rw[h0]at ho;cases ho
    exact hd t ht
   exact hapn ▸ hlex.dst j oj oM ho t ht
  ·intro j oj hj ho
   by_cases e:j=i
   ·subst e;rw[h0]at ho;cases ho
    simpa using hg
   simpa[e] using hlex.guard j oj oM ho
  ·intro j oj hj ho
   by_cases e:j=i
   ·subst e;rw[h0]at ho;cases ho
    simpa using hrun
   simpa[e] using hlex.step j oj oM ho
  intro j hj hjl
  by_cases e:j=i
  ·subst e
   simpa using hr'.mem.keys
  simpa[e] using hlex.pw j oM hjl
def qC(T:Nat->St)(md:Nat->MD)(i k:Nat):Prop:=
 match md i with
 |.none=>False
 |.push _=>k=(T i).nk
 |.set k' _=>k=k'
 |.drop k'=>k=k'
 |.repl k' _=>k=k'∨k=(T i).nk
 |.give ks _ nn=>k∈ks∨((T i).nk<=k/\k<(T i).nk+nn)
def zbW(κ:Nat)(md:MD):Prop:=
 match md with
 |.give ks new nn=>(∀k m,(k,m)∈new->k∈ks∨(κ<=k/\k<κ+nn))/\∀k,κ<=k->k<κ+nn->∃m,(k,m)∈new
 |_=>True
structure ziV (P:Program) (o:Oper) (σ:St) (svs:LQ) (s:SV) (md:MD) (U:LG):Prop where
 ok:∃lm:LH,ya P o.op svs lm σ.nk s md/\∀k m,lm k=some m->U k/\zH σ.M k=some m
 ev:∀{S Pm:LG} {ρ:ze} {a:Act} {w:World},(∀t s,t∈zgv (kL o.op)->z6 σ.L t=some s->G S Pm ρ w s (a.tmps.getD t undef))->Gs S Pm ρ w svs ((kL o.op).map a.eval)
structure Lex (P:Program) (all:List Oper) (E:Env) (σ0:St) (T:Nat->St) (s:Nat->SV) (md:Nat->MD) (run:Nat->Bool) (svs:Nat->LQ) (U:Nat->LG):Prop where
 start:zel (T 0) σ0
 next:∀(j:Nat) (o:Oper),all[j]?=some o->zel (T (j+1)) ((T j).app o.dst (s j) (md j))
 dst:∀(j:Nat) (o:Oper),all[j]?=some o->∀t,o.dst=some t->t<σ0.nt
 guard:∀(j:Nat) (o:Oper),all[j]?=some o->qB all (T j) o (run j)
 step:∀(j:Nat) (o:Oper),all[j]?=some o->(run j=true/\ziV P o (T j) (svs j) (s j) (md j) (U j))∨(run j=false/\s j=.val undef/\md j=.none)
 pw:∀j:Nat,j<=all.length->(T j).M.Pairwise λa b=>a.1≠b.1
 nodrop:∀(j:Nat) (o:Oper),all[j]?=some o->zbW (T j).nk (md j)
 edges:∀(j:Nat) (o:Oper),all[j]?=some o->∀e∈o.after,Region.binds .any e=true->e.on<j
 slot:∀(i j:Nat) (oi oj:Oper),i<j->all[i]?=some oi->all[j]?=some oj->ziF all oi oj=true->Anc all j i
 mem:∀(i j:Nat),i<j->j<all.length->∀k:Nat,(qC T md i k/\(U j k∨qC T md j k))∨(U i k/\qC T md j k)->Anc all j i
structure Inv (all:List Oper) (E:Env) (σ0:St) (T:Nat->St) (md:Nat->MD) (D:LG) (M:LT) (ρ:ze) (a:Act) (w:World):Prop where
 size:a.tmps.size=σ0.nt
 defers:a.defers=E.ds
 down:Down all D
 mem:zB E.Keep M ρ w
 regs:∀t j sv,j<=all.length->(∀i o,all[i]?=some o->o.dst=some t->(D i↔i<j))->z6 (T j).L t=some sv->
  t<σ0.nt/\G (λb=>E.Keep b∨Own M ρ b) (Own M ρ) ρ w sv (a.tmps.getD t undef)
 keys:∀k j m,j<=all.length->(∀i,i<all.length->qC T md i k->(D i↔i<j))->zH (T j).M k=some m->zH M k=some m
 names:∀k v,ρ k=some v->k<σ0.nk∨∃i,D i/\i<all.length/\(T i).nk<=k/\k<za8 (T i).nk (md i)
 stp:Stp E.W0 (Own M ρ) E.ρ0 ρ E.w0 w
variable{M:LT}{k':Nat}{m:Mem}
def kj{k:Nat}:zH ((k,m)::M) k'=if k=k' then some m else zH M k':=by
 simp only[zH]
 by_cases h:k=k'
 ·subst h;simp[K4]
 have:Nat.beq k k'=false:=by
  cases hb:Nat.beq k k' with
  |false=>rfl
  |true=>exact absurd (Xh hb) h
 simp[this,h]
def ziW{k:Nat}:zH (kO M k m) k'=if k=k' then(zH M k).map (λ_=>m) else zH M k':=by
 induction M with
 |nil=>simp[kO,zH]
 |cons x r ih=>
  obtain⟨q,y⟩:=x;simp only[kO]
  split
  ·rename_i hb;have:=Xh hb;subst this;rw[kj,kj,kj]
   by_cases e:q=k' <;> simp[e]
  rename_i hb;have hne:=KO hb;rw[kj,ih,kj,kj]
  by_cases e:k=k'
  ·subst e;simp[hne]
  simp[e]
def zcU{k:Nat}(h:k≠k'):zH (z5 M k) k'=zH M k':=by
 induction M with
 |nil=>rfl
 |cons x r ih=>
  obtain⟨q,y⟩:=x;simp only[z5]
  split
  ·rename_i hb;have:=Xh hb;subst this;rw[kj,Xb h]
  rw[kj,kj,ih]
def vM{k:Nat}(hp:M.Pairwise λa b=>a.1≠b.1):zH (z5 M k) k=none:=by
 cases h:zH (z5 M k) k with
 |none=>rfl
 |some m=>exact absurd rfl (yP hp _ (zn h))
end
section lex
variable{P:Program}{all:List Oper}{E:Env}{σ0:St}{T:Nat->St}{s:Nat->SV}{md:Nat->MD}{run:Nat->Bool}{svs:Nat->LQ}{U:Nat->LG}
section
variable{j:Nat}
def Lex.nk_next(h:Lex P all E σ0 T s md run svs U)(hj:j<all.length):(T (j+1)).nk=za8 (T j).nk (md j):=by
 have:=(h.next j _ (Xa hj)).2.1;exact this
def zsY(κ:Nat)(m:MD):κ<=za8 κ m:=by cases m <;> simp[za8]
def Lex.nk_mono(h:Lex P all E σ0 T s md run svs U){i:Nat}:∀{j:Nat},i<=j->j<=all.length->(T i).nk<=(T j).nk
 |0,hij,_=>by
   have:i=0:=oM;subst this;exact Xi _
 |j+1,hij,hj=>by
  by_cases e:i=j+1
  ·subst e;exact Xi _
  have:=h.nk_mono (i:=i) (j:=j) oM oM;rw[h.nk_next oM];exact XE this (zsY _ _)
variable{i:Nat}
def Lex.nk_push(h:Lex P all E σ0 T s md run svs U)(hij:i<j)(hj:j<=all.length):za8 (T i).nk (md i)<=(T j).nk:=by
 have h1:=h.nk_mono (i:=i+1) (j:=j) oM hj
 rwa [h.nk_next oM]at h1
def zw1{σ:St}{d:Option Tmp}{sv:SV}{m:MD}{t:Nat}(hd:d≠some t):z6 (σ.app d sv m).L t=z6 σ.L t:=by
 cases d with
 |none=>rfl
 |some d=>
  show z6 ((d,sv)::σ.L) t=_;rw[zK,Xb (λe=>hd (by rw[e]))]
def Lex.look_chain(h:Lex P all E σ0 T s md run svs U){t j0:Nat}:∀{j:Nat} {s':SV},j0<=j->j<=all.length->(∀i o,j0<=i->i<j->all[i]?=some o->o.dst≠some t)->z6 (T j).L t=some s'->
  ∃s0,z6 (T j0).L t=some s0/\∀S Pm ρ w v,G S Pm ρ w s0 v->G S Pm ρ w s' v
 |0,s',h0,_,_,hl=>by
  have:j0=0:=oM;subst this;exact⟨s',hl,λ_ _ _ _ _ h=>h⟩
 |j+1,s',h0,hj,hw,hl=>by
  by_cases e:j0=j+1
  ·subst e;exact⟨s',hl,λ_ _ _ _ _ h=>h⟩
  have hlt:j<all.length:=by omega
  have ho:=Xa hlt;obtain⟨s1,hl1,hi1⟩:=(h.next j _ ho).2.2.2.2 t s' hl;rw[zw1 (hw j _ oM oM ho)]at hl1;obtain⟨s0,hl0,hi0⟩:=h.look_chain (j:=j) oM oM (λi o h1 h2=>hw i o h1 oM) hl1;exact⟨s0,hl0,λS Pm ρ w v hg=>hi1 _ _ _ _ _ (hi0 _ _ _ _ _ hg)⟩
variable{A:LT}
def zfz{B:LT}{k:Nat}:zH (A++B) k=(match zH A k with|some m=>some m|none=>zH B k):=by
 induction A with
 |nil=>rfl
 |cons x r ih=>
  obtain⟨q,y⟩:=x;rw[JA,kj,kj]
  by_cases h:q=k
  ·simp[h]
  simp only[h,if_false];exact ih
def vr{k:Nat}:∀{ks:LB} {M:LT},k∉ks->zH (jv M ks) k=zH M k
 |[],_,_=>rfl
 |q::r,M,h=>by
  simp only[jv];rw[vr (λe=>h (.tail _ e)),zcU (λe=>h (by rw[e];exact .head _))]
def zkU{k:Nat}(h:∀m,(k,m)∉A):zH A k=none:=by
 cases hl:zH A k with
 |none=>rfl
 |some m=>exact absurd (zn hl) (h m)
variable{m:Mem}
def zkV{k:Nat}(h:(k,m)∈A):∃m',zH A k=some m':=by
 induction A with
 |nil=>cases h
 |cons x r ih=>
  obtain⟨q,y⟩:=x;rw[kj]
  by_cases e:q=k
  ·exact⟨y,Xe e⟩
  rw[Xb e]
  cases h with
  |head=>exact absurd rfl e
  |tail _ h=>exact ih h
def zar{k:Nat}:∀{ks:LB} {M:LT},M.Pairwise (λa b=>a.1≠b.1)->k∈ks->zH (jv M ks) k=none
 |[],_,_,h=>(by cases h)
 |q::r,M,hp,h=>by
  simp only[jv]
  by_cases hr:k∈r
  ·exact zar (k7 hp) hr
  rw[vr hr]
  cases h with
  |head=>exact vM hp
  |tail _ h=>exact absurd h hr
variable{M:LT}
def zlo{k:Nat}(hgv:zbW (T j).nk (md j))(hn:¬qC T md j k):zH (zcy M (T j).nk (md j)) k=zH M k:=by
 unfold qC at hn
 cases hm:md j <;> simp only[hm]at hn <;> simp only[zcy]
 ·rw[kj,Xb (λe=>hn e.symm)]
 ·rw[ziW,Xb (λe=>hn e.symm)]
 ·exact zcU (λe=>hn e.symm)
 ·rw[kj,Xb (λe=>hn (.inr e.symm))];exact zcU (λe=>hn (.inl e.symm))
 rename_i ks new nn;unfold zbW at hgv;simp only[hm]at hgv;rw[zfz,zkU (λm hmem=>hn (hgv.1 k m hmem)),vr (λh=>hn (.inl h))]
def Lex.lookM_chain(h:Lex P all E σ0 T s md run svs U){k j0:Nat}:∀{j:Nat},j0<=j->j<=all.length->(∀i,j0<=i->i<j->¬qC T md i k)->zH (T j).M k=zH (T j0).M k
 |0,h0,_,_=>by
  have:j0=0:=oM;subst this;rfl
 |j+1,h0,hj,hw=>by
  by_cases e:j0=j+1
  ·subst e;rfl
  have hlt:j<all.length:=by omega
  have ho:=Xa hlt;have hM:=(h.next j _ ho).1;rw[hM];show zH (zcy (T j).M (T j).nk (md j)) k=_;rw[zlo (h.nodrop j _ ho) (hw j oM oM)];exact h.lookM_chain oM oM λi h1 h2=>hw i h1 oM
def zbp{k:Nat}(hp:M.Pairwise λa b=>a.1≠b.1)(h:(k,m)∈M):zH M k=some m:=by
 induction M with
 |nil=>cases h
 |cons x r ih=>
  obtain⟨q,y⟩:=x;rw[XY]at hp;rw[kj]
  cases h with
  |head=>simp
  |tail _ h=>
   have:q≠k:=hp.1 _ h;rw[Xb this];exact ih hp.2 h
variable{ρ:ze}{a:Act}
def Inv.after(hlex:Lex P all E σ0 T s md run svs U){D:LG}{w w':World}{v:Value}(hI:Inv all E σ0 T md D M ρ a w)
{o:Oper} (ho:all[j]?=some o) (hj:¬D j) (hedges:∀e∈o.after,Region.binds .any e=true->D e.on) (ha:kG E.Keep M ρ w (T j).nk (s j) (md j) v w'):
  ∃M' ρ',Inv all E σ0 T md (λi=>i=j∨D i) M' ρ' (a.put o.dst v) w':=by
 obtain⟨ρ',hs,hm,hg,hρ⟩:=ha;have hjl:j<all.length:=(Xd.1 ho).1;have hbefore:∀i,Anc all j i->D i:=λi hA=>hA D hI.down (λo' ho'=>by rw[ho]at ho';cases ho';exact hedges)
 have hafter:∀i,Anc all i j->¬D i:=λi hA hDi=>hj (hA D hI.down (λoi hi=>hI.down i oi hDi hi))
 have hdef:(a.put o.dst v).defers=E.ds:=by cases hd:o.dst <;> exact hI.defers
 refine⟨zcy M (T j).nk (md j),ρ',?_,hdef,?_,hm,?_,?_,?_,hI.stp.trans hs⟩
 ·have:=hI.size
  cases hd:o.dst <;> simpa[Act.put] using this
 ·intro i oi hi hoi e he hb
  rcases hi with rfl|hi
  ·rw[ho]at hoi;cases hoi;exact .inr (hedges e he hb)
  exact .inr (hI.down i oi hi hoi e he hb)
 ·intro t j' sv hj' hag hl
  have hold:o.dst≠some t->(∀i oi,all[i]?=some oi->oi.dst=some t->(D i↔i<j')):=λhd i oi hi hdi=>by
   have h1:=hag i oi hi hdi;constructor
   ·intro h;exact h1.1 (.inr h)
   intro h
   rcases h1.2 h with rfl|h
   ·rw[ho]at hi;cases hi;exact absurd hdi hd
   exact h
  by_cases hd:o.dst=some t
  ·have hlt:j<j':=(hag j o ho hd).1 (.inl rfl)
   have hno:∀i oi,j+1<=i->i<j'->all[i]?=some oi->oi.dst≠some t:=λi oi h1 h2 hi hdi=>by
    have hDi:=((hag i oi hi hdi).2 h2).resolve_left oM;refine hafter i (hlex.slot j i o oi oM ho hi ?_) hDi;unfold ziF;have:zcJ (yI o) (yI oi)=true:=ziT (t:=t) (by simp[yI,hd]) (by simp[yI,hdi]);simp[this]
   obtain⟨s1,hl1,hi1⟩:=hlex.look_chain (j0:=j+1) oM hj' hno hl;obtain⟨s2,hl2,hi2⟩:=(hlex.next j o ho).2.2.2.2 t s1 hl1;have hl2:z6 (putL (T j).L o.dst (s j)) t=some s2:=hl2;rw[hd]at hl2;have hl2:z6 ((t,s j)::(T j).L) t=some s2:=hl2;rw[zK,Xe rfl]at hl2
   cases hl2
   have htl:=hlex.dst j o ho t hd;refine⟨htl,?_⟩;rw[hd,zfx (by rw[hI.size];exact htl),Xe rfl];exact hi1 _ _ _ _ _ (hi2 _ _ _ _ _ hg)
  obtain⟨htl,hg'⟩:=hI.regs t j' sv hj' (hold hd) hl;refine⟨htl,?_⟩
  have hput:(a.put o.dst v).tmps.getD t undef=a.tmps.getD t undef:=by
   cases hdd:o.dst with
   |none=>rfl
   |some d=>
    have hdl:=hlex.dst j o ho d hdd;rw[zfx (by rw[hI.size];exact hdl),Xb (λe=>hd (by rw[hdd,e]))]
  rw[hput];exact hg'.stp hs
 ·intro k j' m hj' hag hl
  by_cases ht:qC T md j k
  ·have hlt:j<j':=(hag j hjl ht).1 (.inl rfl)
   have hno:∀i,j+1<=i->i<j'->¬qC T md i k:=λi h1 h2 hti=>by
    have hil:i<all.length:=oM;have hDi:=((hag i hil hti).2 h2).resolve_left oM;exact hafter i (hlex.mem j i oM hil k (.inl ⟨ht,.inr hti⟩)) hDi
   rw[hlex.lookM_chain (j0:=j+1) oM hj' hno,(hlex.next j o ho).1]at hl;have hl:zH (zcy (T j).M (T j).nk (md j)) k=some m:=hl
   have hagj:∀m,zH (T j).M k=some m->zH M k=some m:=λm hlk=>by
    refine hI.keys k j m oM (λi hil hti=>?_) hlk;constructor
    ·intro hDi
     rcases Qs i j with h|h|h
     ·exact h
     ·subst h;exact absurd hDi hj
     exact absurd hDi (hafter i (hlex.mem j i h hil k (.inl ⟨ht,.inr hti⟩)))
    intro hij;exact hbefore i (hlex.mem i j hij hjl k (.inl ⟨hti,.inr ht⟩))
   unfold qC at ht
   cases hmd:md j with
   |none=>simp only[hmd]at ht
   |push m'=>
    simp only[hmd]at ht hl ⊢;simp only[zcy]at hl ⊢;rw[kj,Xe ht.symm]at hl ⊢;exact hl
   |set k' m'=>
    simp only[hmd]at ht hl ⊢;subst ht;simp only[zcy]at hl ⊢;rw[ziW,Xe rfl]at hl ⊢
    cases hq:zH (T j).M k with
    |none=>rw[hq]at hl;cases hl
    |some m0=>
     rw[hq]at hl;rw[hagj m0 hq];exact hl
   |drop k'=>
    simp only[hmd]at ht hl;subst ht;simp only[zcy]at hl;rw[vM (hlex.pw j oM)]at hl
    cases hl
   |repl k' m'=>
    simp only[hmd]at ht hl ⊢;simp only[zcy]at hl ⊢;rw[kj]at hl ⊢
    by_cases e:(T j).nk=k
    ·rw[Xe e]at hl ⊢;exact hl
    rw[Xb e]at hl ⊢;have hkk:=ht.resolve_right (λh=>e h.symm);subst hkk;rw[vM (hlex.pw j oM)]at hl
    cases hl
   |give ks new nn=>
    have hgv:=hlex.nodrop j o ho;unfold zbW at hgv;simp only[hmd]at ht hl hgv ⊢;simp only[zcy]at hl ⊢;rw[zfz]at hl ⊢
    cases hq:zH new k with
    |some m0=>rw[hq]at hl;exact hl
    |none=>
     exfalso
     rw[hq]at hl
     rcases ht with ht|⟨h1,h2⟩
     ·have hl:zH (jv (T j).M ks) k=some m:=hl;rw[zar (hlex.pw j oM) ht]at hl
      cases hl
     obtain⟨m1,hm1⟩:=hgv.2 k h1 h2;obtain⟨m2,hm2⟩:=zkV hm1;rw[hq]at hm2;cases hm2
  rw[zlo (hlex.nodrop j o ho) ht];refine hI.keys k j' m hj' (λi hil hti=>?_) hl;have h1:=hag i hil hti;constructor
  ·intro h;exact h1.1 (.inr h)
  intro h
  rcases h1.2 h with rfl|h
  ·exact absurd hti ht
  exact h
 intro k v' hv'
 by_cases hk:k<(T j).nk∨za8 (T j).nk (md j)<=k
 ·rw[hρ k hk]at hv'
  rcases hI.names k v' hv' with h|⟨i,h1,h2,h3,h4⟩
  ·exact .inl h
  exact .inr ⟨i,.inr h1,h2,h3,h4⟩
 exact .inr ⟨j,.inl rfl,hjl,oM,oM⟩
def Lex.nt(h:Lex P all E σ0 T s md run svs U):∀{j:Nat},j<=all.length->(T j).nt=σ0.nt/\(T j).n0=σ0.n0
 |0,_=>⟨h.start.2.2.1,h.start.2.2.2.1⟩
 |j+1,hj=>by
  have ho:=Xa (show j<all.length by omega);obtain⟨_,_,h1,h2,_⟩:=h.next j _ ho
  obtain⟨h3,h4⟩:=h.nt (j:=j) oM;exact⟨h1.trans h3,h2.trans h4⟩
def Inv.sees(hlex:Lex P all E σ0 T s md run svs U){D:LG}{w:World}(hI:Inv all E σ0 T md D M ρ a w)
{o:Oper} (ho:all[j]?=some o) (hj:¬D j) (hedges:∀e∈o.after,Region.binds .any e=true->D e.on):
  (∀t,t∈zbO all o->∀sv,z6 (T j).L t=some sv->t<σ0.nt/\G (λb=>E.Keep b∨Own M ρ b) (Own M ρ) ρ w sv (a.tmps.getD t undef))/\
  (∀k m,U j k->zH (T j).M k=some m->zH M k=some m)/\(∀k,(T j).nk<=k->k<za8 (T j).nk (md j)->ρ k=none):=by
 have hjl:j<all.length:=(Xd.1 ho).1;have hbefore:∀i,Anc all j i->D i:=λi hA=>hA D hI.down (λo' ho'=>by rw[ho]at ho';cases ho';exact hedges)
 have hafter:∀i,Anc all i j->¬D i:=λi hA hDi=>hj (hA D hI.down (λoi hi=>hI.down i oi hDi hi))
 refine⟨λt ht sv hl=>hI.regs t j sv oM (λi oi hi hd=>?_) hl,λk m hu hlk=>?_,λq hp1 hp2=>?_⟩
 ·constructor
  ·intro hDi
   rcases Qs i j with h|h|h
   ·exact h
   ·subst h;exact absurd hDi hj
   refine absurd hDi (hafter i (hlex.slot j i o oi h ho hi ?_));have:zcJ (zbO all o) (yI oi)=true:=ziT ht (by simp[yI,hd]);unfold ziF;simp[this]
  intro hij;refine hbefore i (hlex.slot i j oi o hij hi ho ?_);have:zcJ (yI oi) (zbO all o)=true:=ziT (t:=t) (by simp[yI,hd]) ht;unfold ziF;simp[this]
 ·refine hI.keys k j m oM (λi hil hti=>?_) hlk;constructor
  ·intro hDi
   rcases Qs i j with h|h|h
   ·exact h
   ·subst h;exact absurd hDi hj
   exact absurd hDi (hafter i (hlex.mem j i h hil k (.inr ⟨hu,hti⟩)))
  intro hij;exact hbefore i (hlex.mem i j hij hjl k (.inl ⟨hti,.inl hu⟩))
 cases hq:ρ q with
 |none=>rfl
 |some v=>
  exfalso
  rcases hI.names _ v hq with h|⟨i,h1,h2,h3,h4⟩
  ·have h5:=hlex.nk_mono (i:=0) (j:=j) oM oM;have h6:(T 0).nk=σ0.nk:=hlex.start.2.1;omega
  rcases Qs i j with h|h|h
  ·have:=hlex.nk_push h oM;omega
  ·subst h;exact hj h1
  have:=hlex.nk_push h oM;omega
def Inv.step(hlex:Lex P all E σ0 T s md run svs U){D:LG}{M:LT}{ρ:ze}{a:Act}{w:World}(hI:Inv all E σ0 T md D M ρ a w){j:Nat}{o:Oper}(ho:all[j]?=some o)(hj:¬D j)(hedges:∀e∈o.after,Region.binds .any e=true->D e.on){Q:LC}{K:LD}(hK:∀M ρ a w,Inv all E σ0 T md (λi=>i=j∨D i) M ρ a w->K a w):wpOp P all.toArray Q j K a w:=by
 have hjl:j<all.length:=(Xd.1 ho).1;obtain⟨h1,h2,h3⟩:=hI.sees hlex ho hj hedges;have hnt:=(hlex.nt (j:=j) oM).1
 have hw:Region.wanted o (yielded all.toArray a.tmps)=run j:=
  zlm (hlex.guard j o ho) (hI.size.trans hnt.symm) λt b ⟨g,want,hg,hd⟩ hl=>by
   obtain⟨h4,h5⟩:=h1 t (by simp[zbO,hg,hd]) _ hl;exact⟨hnt ▸ h4,h5.val_inv⟩
 have ho':all.toArray[j]?=some o:=by simpa using ho
 unfold wpOp;simp only[ho',hw]
 obtain⟨hrun,hst⟩|⟨hrun,hs,hm⟩:=hlex.step j o ho
 ·simp only[hrun,if_true];have hev:=hst.ev (S:=λb=>E.Keep b∨Own M ρ b) (Pm:=Own M ρ) (ρ:=ρ) (a:=a) (w:=w) λt sv ht hl=>(h1 t (by simp[zbO,ht]) sv hl).2
  have hdo:qk P o a w (kG E.Keep M ρ w (T j).nk (s j) (md j)):=by
   obtain⟨lm,hok,hlm⟩:=hst.ok;refine hok o rfl E.Keep M ρ a w (λk m hk=>h2 k m (hlm k m hk).1 (hlm k m hk).2) hI.mem h3 (λhp m hm=>?_) hev
   obtain⟨v,hv⟩:=(hI.mem.rel _ m hm).name;have hlt:(T j).nk<za8 (T j).nk (md j):=by cases hmd:md j <;> simp[hmd,zwV]at hp <;> simp[za8]
   rw[h3 _ (Xi _) hlt]at hv;cases hv
  refine .inl (hdo.wp λv w' ha=>?_);obtain⟨M',ρ',h⟩:=hI.after hlex ho hj hedges ha;exact hK _ _ _ _ h
 simp only[hrun,KC,if_false];have ha:kG E.Keep M ρ w (T j).nk (s j) (md j) undef w:=by rw[hs,hm];exact ub hI.mem
 obtain⟨M',ρ',h⟩:=hI.after hlex ho hj hedges ha;exact hK _ _ _ _ h
def zdJ{ops:List Oper}{listed:Array Bool}:i∈Region.ready .any ops.toArray listed↔
  ∃o,ops[i]?=some o/\listed.getD i true=false/\∀e∈o.after,Region.binds .any e=true->listed.getD e.on false=true:=by
 unfold Region.ready;simp only[QB,XT,KU,XC,J7];constructor
 ·rintro⟨h1,h2,h3⟩
  have ho:=Xa h1;refine⟨_,ho,h2,λe he hb=>?_⟩;rw[Yt,ho]at h3;simp only[Qk,KS]at h3;have:=Jk.1 h3 e he
  simpa[hb] using this
 rintro⟨o,ho,h2,h3⟩
 refine⟨(Xd.1 ho).1,h2,?_⟩;rw[Yt,ho];simp only[Qk,KS];refine Jk.2 λe he=>?_
 cases hb:Region.binds .any e with
 |false=>rfl
 |true=>simpa using h3 e he hb
def zuP(hlex:Lex P all E σ0 T s md run svs U){Q:LC}(hQ:∀D M ρ a w,(∀i,i<all.length->D i)->Inv all E σ0 T md D M ρ a w->Q .normal a w):∀(fuel:Nat) (listed:Array Bool) (M:LT) (ρ:ze) (a:Act) (w:World),
  listed.size=all.length->listed.toList.count false<=fuel->Inv all E σ0 T md (λi=>listed.getD i false=true) M ρ a w->wpAny P .any all.toArray Q fuel listed a w:=by
 have hlt:=hlex.edges
 have hdone:∀(listed:Array Bool),listed.size=all.length->Region.ready .any all.toArray listed=[]->∀i,i<all.length->listed.getD i false=true:=λlisted hsz hn i=>by
  induction i using Nat.strongRecOn with
  |_ i ih=>
   intro hi
   cases hb:listed.getD i false with
   |true=>rfl
   |false=>
    have ho:=Xa hi
    have:i∈Region.ready .any all.toArray listed:=zdJ.2 ⟨_,ho,by
     have hi':i<listed.size:=oM
     simp[Array.getD,hi']at hb ⊢;exact hb,λe he hbind=>by
      have:=hlt i _ ho e he hbind
      exact ih e.on this oM⟩
    rw[hn]at this;cases this
 intro fuel
 induction fuel with
 |zero=>
  intro listed M ρ a w hsz hc hI
  have hall:∀i,i<all.length->listed.getD i false=true:=λi hi=>by
   have hi':i<listed.size:=oM
   cases hb:listed.getD i false with
   |true=>rfl
   |false=>
    have:false∈listed.toList:=by
     simp[Array.getD,hi']at hb;rw[←hb];simp
    have:=Jg.2 this;omega
  refine⟨?_,hQ _ _ _ _ _ hall hI⟩
  cases hr:Region.ready .any all.toArray listed with
  |nil=>rfl
  |cons i r=>
   have hi:i∈Region.ready .any all.toArray listed:=by rw[hr];exact .head _
   obtain⟨o,ho,h2,_⟩:=zdJ.1 hi;have hil:=(Xd.1 ho).1;have h3:=hall i hil;have hi':i<listed.size:=oM;simp[Array.getD,hi']at h2 h3;rw[h2]at h3;cases h3
 |succ fuel ih=>
  intro listed M ρ a w hsz hc hI;refine⟨λhn=>hQ _ _ _ _ _ (hdone listed hsz hn) hI,λj hj=>?_⟩;obtain⟨o,ho,h2,h3⟩:=zdJ.1 hj;have hjl:=(Xd.1 ho).1;have hj':j<listed.size:=oM;have hjf:listed[j]=false:=by simpa[Array.getD,hj'] using h2
  refine hI.step hlex ho (by simp[Array.getD,hj',hjf]) h3 λM' ρ' a' w' hI'=>ih _ M' ρ' a' w' (by simpa using hsz) ?_ ?_
  ·have hmem:false∈listed.toList:=by rw[←hjf];simp
   have hpos:=Jg.2 hmem
   have:(listed.setIfInBounds j true).toList.count false=listed.toList.count false-1:=by
    rw[QU,List.count_set (by simpa using hj')];simp[hjf]
   omega
  have:(λi=>(listed.setIfInBounds j true).getD i false=true)=λi=>i=j∨listed.getD i false=true:=by
   funext i
   apply propext
   by_cases e:j=i
   ·subst e;simp[Array.getD,hj']
   simp only[X8,KX e];constructor
   ·exact .inr
   rintro(h|h)
   ·exact absurd h.symm e
   exact h
  rw[this];exact hI'
end
end lex
section
variable{P:Program}{E:Env}{Q:LC}{K:St->Prop}{ops:Array Oper}{σ:St}{ρ:ze}{a:Act}
def zlp{w:World}(hr:Rel E σ ρ a w)(hlex0:∀w,Rel E σ ρ a w->∃T s md run svs U,Lex P ops.toList E σ T s md run svs U/\K (T ops.toList.length))(hQ:∀σ ρ a w,K σ->Rel E σ ρ a w->Q .normal a w):wpAny P .any ops Q ops.size (Array.replicate ops.size false) a { w with drawn:=w.drawn+1 }:=by
 have hd:Stp (Own σ.M ρ) (Own σ.M ρ) ρ ρ w { w with drawn:=w.drawn+1 }:=⟨rfl,rfl,⟨rfl,λ_=>rfl⟩,Xi _,λ_ _ _=>rfl,λ_ h=>.inl h,λ_ _ h=>h⟩
 have hr1:Rel E σ ρ a { w with drawn:=w.drawn+1 }:=
  ⟨hr.size,hr.defers,λt s hl=>⟨(hr.regs t s hl).1,(hr.regs t s hl).2.stp hd⟩,⟨λk m h=>(hr.mem.rel k m h).keep hd rfl (λ_ _ _ _=>rfl),hr.mem.keys,hr.mem.apart,hr.mem.old,hr.mem.kp,hr.mem.glS hd⟩,hr.fresh,hr.stp.trans hd,hr.keep,hr.low⟩
 obtain⟨T,s,md,run,svs,U,hlex,hK⟩:=hlex0 _ hr1;have hsz:ops.size=ops.toList.length:=by simp
 have main:=zuP (Q:=Q) hlex (λD M ρ' a' w' hD hI=>by
  have hn:=hlex.nt (j:=ops.toList.length) (Xi _)
  have hin:∀x∈(T ops.toList.length).M,x∈M:=λx hx=>by
   obtain⟨k,m⟩:=x;exact zn (hI.keys k _ m (Xi _) (λi hi _=>⟨λ_=>hi,λ_=>hD i hi⟩) (zbp (hlex.pw _ (Xi _)) hx))
  obtain⟨hs,hmo⟩:=hI.mem.let_go (M1:=(T ops.toList.length).M) hin (hlex.pw _ (Xi _))
  ·refine hQ (T ops.toList.length) ρ' a' w' hK ⟨hI.size.trans hn.1.symm,hI.defers,λt sv hl=>?_,hmo,λk hk=>?_,hI.stp.trans hs,hr.keep,λk v hv=>hn.2 ▸ hr.low k v hv⟩
   ·obtain⟨h1,h2⟩:=hI.regs t ops.toList.length sv (Xi _) (λi o hi _=>⟨λ_=>(Xd.1 hi).1,λh=>hD i h⟩) hl;exact⟨hn.1.symm ▸ h1,h2.stp hs⟩
   cases hq:ρ' k with
   |none=>rfl
   |some v=>
    exfalso
    rcases hI.names k v hq with h|⟨i,_,h2,h3,h4⟩
    ·have h5:=hlex.nk_mono (i:=0) (j:=ops.toList.length) oM (Xi _);have h6:(T 0).nk=σ.nk:=hlex.start.2.1;omega
    have:=hlex.nk_push h2 (Xi _);omega)
  ops.size (Array.replicate ops.size false) σ.M ρ a { w with drawn:=w.drawn+1 } sI sI
  ⟨hr1.size,hr1.defers,λi o hi=>by simp[Array.getD]at hi,hr1.mem,λt j sv hj hag hl=>?_,λk j m hj hag hl=>?_,λk v hv=>.inl ?_,hr1.stp⟩
 ·simpa using main
 ·have hno:∀i o,0<=i->i<j->ops.toList[i]?=some o->o.dst≠some t:=λi o _ h2 hi hd=>by
   have:=(hag i o hi hd).2 h2;simp[Array.getD]at this
  obtain⟨s1,hl1,hi1⟩:=hlex.look_chain (j0:=0) (Xg _) hj hno hl;obtain⟨s2,hl2,hi2⟩:=hlex.start.2.2.2.2 t s1 hl1;exact⟨(hr1.regs t s2 hl2).1,hi1 _ _ _ _ _ (hi2 _ _ _ _ _ (hr1.regs t s2 hl2).2)⟩
 ·have hno:∀i,0<=i->i<j->¬qC T md i k:=λi _ h2 ht=>by
   have:=(hag i oM ht).2 h2;simp[Array.getD]at this
  rw[hlex.lookM_chain (j0:=0) (Xg _) hj hno,hlex.start.1]at hl;exact hl
 by_cases hk:k<σ.nk
 ·exact hk
 rw[hr1.fresh k oM]at hv;cases hv
variable{md:Nat->MD}
def Lex0.lex{all:List Oper}{σ0:St}{T:Nat->St}{s:Nat->SV}{run:Nat->Bool}{svs:Nat->LQ}(h:Lex0 P all E σ0 0 T s md run svs)(hord:uD all=true):
  Lex P all E σ0 T s md run svs (λj k=>(∃o,all[j]?=some o/\zcs o.op=true)/\k<(T j).nk):=by
 obtain⟨hedges,hconf⟩:=zri hord
 have mdok:∀j o,all[j]?=some o->MdOK all j (T j).nk o.op (md j):=λj o ho=>by
  rcases h.step j o (Xg _) ho with⟨_,hs⟩|⟨_,_,hm⟩
  ·exact hs.md rfl
  exact .inr (.inl hm)
 have nk_next:∀j,j<all.length->(T (j+1)).nk=za8 (T j).nk (md j):=λj hj=>(h.next j _ (Xg _) (Xa hj)).2.1
 have nk_mono:∀i j,i<=j->j<=all.length->(T i).nk<=(T j).nk:=by
  intro i j
  induction j with
  |zero=>
    intro hij _;have:i=0:=oM;subst this;exact Xi _
  |succ j ih=>
   intro hij hj
   by_cases e:i=j+1
   ·subst e;exact Xi _
   have:=ih oM oM;rw[nk_next j oM];exact XE this (zsY _ _)
 have nk_lt:∀i j k,i<j->j<=all.length->qC T md i k->k<(T j).nk:=λi j k hij hj ht=>by
  have h1:=nk_mono (i+1) j oM hj;rw[nk_next i oM]at h1;have ho:=Xa (show i<all.length by omega);unfold qC at ht
  obtain⟨_,⟨hd,hgv⟩,hk⟩|hm|⟨⟨m',hm⟩,_⟩:=mdok i _ ho
  ·cases hmd:md i <;> simp only[hmd]at ht h1 <;> simp only[za8]at h1
   ·omega
   ·have:=hk _ _ (.inl hmd);omega
   ·exact absurd hmd (hd _)
   ·have:=hk _ _ (.inr hmd);omega
   rw[hmd]at hgv;cases hgv
  ·rw[hm]at ht;exact ht.elim
  rw[hm]at ht h1;simp only[za8]at h1;have ht:k=(T i).nk:=ht;omega
 have wu:∀op:Op,isW op=true->zcs op=true/\zcH op=true:=λop hW=>by
  cases op <;> first|exact⟨rfl,rfl⟩|(simp[isW,zwT]at hW;done)|exact⟨rfl,by simpa[isW,zcH] using hW⟩
 have fwd:∀i j oi oj k,i<j->all[i]?=some oi->all[j]?=some oj->qC T md i k->zcs oj.op=true->Anc all j i:=λi j oi oj k hij hi hj ht hu=>by
  obtain⟨hW,_⟩|hm|⟨⟨m',hm⟩,hmt⟩:=mdok i oi hi
  ·exact hconf i j oi oj hij hi hj (by unfold zuF;simp[(wu _ hW).2,hu])
  ·unfold qC at ht;rw[hm]at ht;exact ht.elim
  rcases hmt with hmt|hmt
  ·exact hconf i j oi oj hij hi hj (by unfold zuF;simp[hmt,hu])
  exact zuO hmt j oj hij hj hu
 refine⟨h.start,λj o ho=>h.next j o (Xg _) ho,λj o ho=>h.dst j o (Xg _) ho,λj o ho=>h.guard j o (Xg _) ho,λj o ho=>?_,λj hj=>h.pw j (Xg _) hj,λj o ho=>?_,hedges,
  λi j oi oj hij hi hj hc=>hconf i j oi oj hij hi hj ?_,λi j hij hjl k hk=>?_⟩
 ·rcases h.step j o (Xg _) ho with⟨hr,hs⟩|hs
  ·refine .inl ⟨hr,⟨_,hs.ok,λk m hk=>?_⟩,hs.ev⟩
   split at hk
   ·rename_i hu;exact⟨⟨⟨o,ho,hu⟩,(zap hk).1⟩,(zap hk).2⟩
   cases hk
  exact .inr hs
 ·obtain⟨_,⟨_,hgv⟩,_⟩|hm|⟨⟨m',hm⟩,_⟩:=mdok j o ho
  ·cases hmd:md j <;> first|trivial|(rw[hmd]at hgv;cases hgv)
  ·rw[hm];trivial
  rw[hm];trivial
 ·unfold ziF at hc;unfold zuF;simp only[JI]at hc ⊢
  rcases hc with(hc|hc)|hc
  ·exact .inl (.inl (.inr hc))
  ·exact .inl (.inr hc)
  exact .inr hc
 have hi:=Xa (show i<all.length by omega);have hj:=Xa hjl
 have back:qC T md j k->k<(T j).nk->zcs (all[j]).op=true/\isW (all[j]).op=true:=λht hk=>by
  obtain⟨hW,_⟩|hm|⟨⟨m',hm⟩,_⟩:=mdok j _ hj
  ·exact⟨(wu _ hW).1,hW⟩
  ·unfold qC at ht;rw[hm]at ht;exact ht.elim
  unfold qC at ht;rw[hm]at ht;have ht:k=(T j).nk:=ht;omega
 obtain⟨ht,hu|ht2⟩|⟨⟨⟨oi,hoi,hu⟩,hkl⟩,ht2⟩:=hk
 ·obtain⟨⟨oj,hoj,hu⟩,_⟩:=hu;exact fwd i j _ oj k hij hi hoj ht hu
 ·exact fwd i j _ _ k hij hi hj ht (back ht2 (nk_lt i j k hij oM ht)).1
 have hW:=(back ht2 (Xy hkl (nk_mono i j oM oM))).2;exact hconf i j oi _ hij hoi hj (by unfold zuF;simp[hu,hW])
def zcV{P:Program}{Γ:LS}(hT:TOK P Γ){E:Env}{Q:LC}{K:St->Prop}{ops:Array Oper}{σ:St}{ρ:ze}{a:Act}{w:World}(hr:Rel E σ ρ a w)(hord:uD ops.toList=true)(h:uu P Γ true ops.toList ops.toList 0 σ K)(hQ:∀σ ρ a w,K σ->Rel E σ ρ a w->Q .normal a w):wpAny P .any ops Q ops.size (Array.replicate ops.size false) a { w with drawn:=w.drawn+1 }:=
 zlp hr (λw hr=>by
  obtain⟨T,s,md,run,svs,hlex,hK⟩:=ziU hT ops.toList 0 σ ρ a w sI (λj=>by simp) hr h
  exact⟨T,s,md,run,svs,_,hlex.lex hord,hK⟩) hQ
variable{Γ:LS}
def zrj(hT:TOK P Γ)(hm:P.follows .mixedOrders=true){id:Nat}{w:World}(hr:Rel E σ ρ a w)(hord:uD ops.toList=true)(h:uu P Γ true ops.toList ops.toList 0 σ K)(hQ:∀σ ρ a w,K σ->Rel E σ ρ a w->Q .normal a w):(Code.region id ops true).wp P Q a w:=
 wp_region_any hm (zcV hT hr hord h hQ)
def zuQ{all:List Oper}(h:zeM all=true):(∀(j:Nat) (o:Oper),all[j]?=some o->∀e∈o.after,Region.binds .any e=true->e.on<j)/\
  ∀(i j:Nat) (oi oj:Oper),i<j->all[i]?=some oi->all[j]?=some oj->ziF all oi oj=true->Anc all j i:=by
 unfold zeM at h;simp only[XC]at h;obtain⟨h1,h2⟩:=h;refine⟨λj o ho e he hb=>?_,λi j oi oj hij hi hj hc=>?_⟩
 ·have hjl:j<all.length:=(Xd.1 ho).1;have:=XV.1 h1 j (XT.2 hjl);simp only[ho]at this;have:=XV.1 this e (by simpa using he);simp only[hb,QF,QQ]at this;exact Xx this
 have hjl:j<all.length:=(Xd.1 hj).1;have:=XV.1 h2 j (XT.2 hjl);have:=XV.1 this i (XT.2 hij);simp only[hi,hj,hc,QF,YE]at this;exact zcT all all.length j i hjl this
variable{i:Nat}
def zrk{T:Nat->St}{k:Nat}(h:qC T md i k):zeb k (zgx (T i).nk (md i))=true:=by
 unfold qC at h;have one:∀x:Nat,k=x->∀l,zeb k (x::l)=true:=λx e l=>by subst e;simp[zeb,K4]
 have two:∀x l,zeb k l=true->zeb k (x::l)=true:=λx l e=>by simp only[zeb];split <;> simp_all
 cases hm:md i <;> simp only[hm]at h
 ·exact one _ h _
 ·exact one _ h _
 ·exact one _ h _
 ·rcases h with h|h
  ·exact one _ h _
  exact two _ _ (one _ h _)
 have mem:∀{l:LB},k∈l->zeb k l=true:=λ{l} hl=>by
  induction l with
  |nil=>cases hl
  |cons x r ih=>
   cases hl with
   |head=>exact one _ rfl _
   |tail _ h=>exact two _ _ (ih h)
 have rng:∀n:Nat,(T i).nk<=k->k<(T i).nk+n->k∈zq5 (T i).nk n:=λn=>by
  induction n with
  |zero=>intro h1 h2;omega
  |succ n ih=>
   intro h1 h2
   by_cases e:k=(T i).nk+n
   ·subst e;exact .head _
   exact .tail _ (ih h1 oM)
 refine mem (Xr.2 ?_)
 rcases h with h|⟨h1,h2⟩
 ·exact .inl h
 exact .inr (rng _ h1 h2)
def ziX{e:Ent}{k:Nat}:∀{l:LB},zeb k l=true->(zct e.u e.nk k=true∨zeb k e.t=true)->zsQ e l=true
 |[],h,_=>by cases h
 |x::r,h,hc=>by
  simp only[zeb]at h;simp only[zsQ]
  split at h
  ·rename_i hb;have:=Xh hb;subst this
   rcases hc with hc|hc
   ·simp[hc]
   simp only[hc];split <;> rfl
  have:=ziX h hc;simp only[this]
  split
  ·rfl
  split <;> rfl
def zoH{x:Ent}{k:Nat}:∀{l:LB},zeb k l=true->zct x.u x.nk k=true->zsR x l=true
 |[],h,_=>by cases h
 |y::r,h,hc=>by
  simp only[zeb]at h;simp only[zsR]
  split at h
  ·rename_i hb;have:=Xh hb;subst this;simp[hc]
  have:=zoH h hc;simp only[this]
  split <;> rfl
def zoI{m:Nat}{e:Ent}:∀{r:List Ent},prOK m e r=true->∀(i:Nat) (x:Ent),i<r.length->r[r.length-1-i]?=some x->zoi x e=true->m.testBit i=true
 |[],_,i,x,hi,_,_=>by simp at hi
 |y::r,h,i,x,hi,hx,hc=>by
  simp only[prOK,XC,JI,J7]at h;simp only[Xq]at hi hx
  by_cases e1:i=r.length
  ·subst e1;simp at hx;subst hx
   rcases h.1 with h|h
   ·exact h
   rw[hc]at h;cases h
  have:r.length+1-1-i=(r.length-1-i)+1:=by omega
  rw[this,KW]at hx;exact zoI h.2 i x oM hx hc
def ziY{ms:LB}:∀{A:List Ent},ziE ms A=true->∀(i j:Nat) (x e:Ent),i<j->j<A.length->A[A.length-1-i]?=some x->A[A.length-1-j]?=some e->zoi x e=true->(ms.getD j 0).testBit i=true
 |[],_,i,j,x,e,_,hj,_,_,_=>by simp at hj
 |y::r,h,i,j,x,e,hij,hj,hx,he,hc=>by
  simp only[ziE,XC]at h;simp only[Xq]at hj hx he;have hi:r.length+1-1-i=(r.length-1-i)+1:=oM;rw[hi,KW]at hx
  by_cases e1:j=r.length
  ·subst e1;simp at he;subst he;exact zoI h.1 i x hij hx hc
  have:r.length+1-1-j=(r.length-1-j)+1:=by omega
  rw[this,KW]at he;exact ziY h.2 i j x e hij oM hx he hc
def zgJ{k:Nat}:∀{l:LB},zkO k l=true->k∈l
 |[],h=>(by cases h)
 |x::r,h=>by
  simp only[zkO]at h
  split at h
  ·rename_i hb;have:=Xh hb;subst this;exact .head _
  exact .tail _ (zgJ h)
def zlq{ks:LB}{κ nn:Nat}:∀{new:LT},zqZ ks κ nn new=true->∀k m,(k,m)∈new->k∈ks∨(κ<=k/\k<κ+nn)
 |[],_,k,m,h=>(by cases h)
 |(q,y)::r,hb,k,m,h=>by
  simp only[zqZ]at hb;obtain⟨h1,h2⟩:=zZ hb
  cases h with
  |head=>
   simp only[JI,XC]at h1
   rcases h1 with h1|h1
   ·exact .inl (zgJ h1)
   exact .inr ⟨Xx h1.1,by simpa using h1.2⟩
  |tail _ h=>exact zlq h2 k m h
def zhr{k:Nat}:∀{new:LT},zeG k new=true->∃m,(k,m)∈new
 |[],h=>(by cases h)
 |(q,y)::r,h=>by
  simp only[zeG]at h
  split at h
  ·rename_i hb;have:=Xh hb;subst this;exact⟨y,.head _⟩
  obtain⟨m,hm⟩:=zhr h;exact⟨m,.tail _ hm⟩
def zhs{new:LT}{κ:Nat}:∀{n:Nat},zeH new κ n=true->∀k,κ<=k->k<κ+n->∃m,(k,m)∈new
 |0,_,k,h1,h2=>oM
 |n+1,h,k,h1,h2=>by
  simp only[zeH]at h;obtain⟨g1,g2⟩:=zZ h
  by_cases e:k=κ+n
  ·subst e;exact zhr g1
  exact zhs g2 k h1 oM
def zw2{κ:Nat}{md:MD}{K:Prop}(h:mdD κ md K):K/\zbW κ md:=by
 unfold mdD at h
 split at h
 ·exact⟨(zf h).2,tV⟩
 ·exact⟨(zf h).2,tV⟩
 ·exact⟨(zf h).2,tV⟩
 ·obtain⟨h1,h2⟩:=zf h;obtain⟨g1,g2⟩:=zZ h1;exact⟨h2,zlq g1,zhs g2⟩
 refine⟨h,?_⟩;rename_i hn
 cases md <;> first|trivial|exact absurd rfl (hn _ _ _)
variable{lm:LH}{m:Mem}
def zoJ{u:Option LB}{nk:Nat}{k:Nat}(h:lmU u nk lm k=some m):zct u nk k=true/\lm k=some m:=by
 unfold lmU at h
 split at h
 ·exact⟨‹_›,h⟩
 cases h
def zrl(hT:TOK P Γ){o:Oper}{K:Ent->St->Prop}{w:World}(hr:Rel E σ ρ a w)(h:zaX P Γ o σ K):∃svs s md,K ⟨zoh o.op svs,σ.nk,zgx σ.nk md⟩ (σ.app o.dst s md)/\ziV P o σ svs s md (λk=>zct (zoh o.op svs) σ.nk k=true)/\(∀t,o.dst=some t->t<σ.nt)/\zbW σ.nk md:=by
 unfold zaX at h;replace h:=zeL h;obtain⟨svs,h,hev⟩:=zfw h;have hg:=hev (a:=a) (λt s _ hl=>(hr.regs t s hl).2);have hlm:∀k m,lmU (zoh o.op svs) σ.nk (vT σ.M σ.nk) k=some m->zH σ.M k=some m:=λk m h=>(zap (zoJ h).2).2
 obtain⟨s,md,hK,hok⟩:=zgI hT ⟨E.Keep,σ.M,ρ,w,_,hlm,hr.mem,hg⟩ h;obtain⟨hK,hmd⟩:=zw2 (zcL (zcK hK));obtain⟨hd,hK⟩:=k9 hK;exact⟨svs,s,md,hK,⟨⟨_,hok,λk m hk=>⟨(zoJ hk).1,hlm k m hk⟩⟩,hev⟩,hd,hmd⟩
def ziV.does{o:Oper}{svs:LQ}{s:SV}{md:MD}{U:LG}(h:ziV P o σ svs s md U){w:World}(hr:Rel E σ ρ a w):qk P o a w (kG E.Keep σ.M ρ w σ.nk s md):=by
 obtain⟨lm,hok,hlm⟩:=h.ok;exact hok o rfl E.Keep σ.M ρ a w (λk m hk=>(hlm k m hk).2) hr.mem (λk hk _=>hr.fresh k hk) (λ_=>hr.noKey) (h.ev λt s _ hl=>(hr.regs t s hl).2)
def zuR(hT:TOK P Γ){all:List Oper}{o:Oper}{r:List Oper}{acc:List Ent}{w:World}(hr:Rel E σ ρ a w)(h:zak P Γ all (o::r) i acc σ K):∃σ' run svs s md e,zak P Γ all r (i+1) (e::acc) (σ'.app o.dst s md) K/\qB all σ' o run/\
   (σ'=σ∨∃t s0 s1,z6 σ.L t=some s0/\(∀S Pm ρ w v,G S Pm ρ w s0 v->G S Pm ρ w s1 v)/\σ'=σ.put (some t) s1)/\(∀t,o.dst=some t->t<σ.nt)/\
   ((run=true/\ziV P o σ' svs s md (λk=>zct e.u e.nk k=true)/\e.t=zgx σ'.nk md)∨(run=false/\s=.val undef/\md=.none))/\zbW σ'.nk md:=by
 have run1:∀{σ':St},Rel E σ' ρ a w->zaX P Γ o σ' (λe σ=>zak P Γ all r (i+1) (e::acc) σ K)->σ'.nt=σ.nt->∃svs s md e,zak P Γ all r (i+1) (e::acc) (σ'.app o.dst s md) K/\(∀t,o.dst=some t->t<σ.nt)/\
   (ziV P o σ' svs s md (λk=>zct e.u e.nk k=true)/\e.t=zgx σ'.nk md)/\zbW σ'.nk md:=by
  intro σ' hr' h' hn;obtain⟨svs,s,md,h1,h2,h3,h4⟩:=zrl hT hr' h';exact⟨svs,s,md,_,h1,λt e=>hn ▸ h3 t e,⟨h2,rfl⟩,h4⟩
 simp only[zak]at h
 split at h
 ·rename_i hg;obtain⟨svs,s,md,e,h1,h2,h3,h4⟩:=run1 hr h rfl;exact⟨σ,true,svs,s,md,e,h1,by simp[qB,hg],.inl rfl,h2,.inl ⟨rfl,h3⟩,h4⟩
 rename_i j want hg
 split at h
 ·exact h.elim
 rename_i t ht
 have gv:∀{σ':St} {v:Value},z6 σ'.L t=some (.val v)->qB all σ' o (zsX v want):=λhl=>by
  unfold qB;rw[hg];exact⟨t,_,ht,hl,rfl⟩
 have gi:∀{σ':St} {b:Bool},z6 σ'.L t=some (.val (.bool b))->qB all σ' o (b==want):=λhl=>gv hl
 have put_look:∀(s1:SV),z6 (σ.put (some t) s1).L t=some s1:=λs1=>by
  show z6 ((t,s1)::σ.L) t=some s1;rw[zK];simp
 split at h
 ·rename_i hl
  split at h
  ·obtain⟨svs,s,md,e,h1,h2,h3,h4⟩:=run1 hr h rfl;exact⟨σ,_,svs,s,md,e,h1,gi hl,.inl rfl,h2,.inl ⟨rfl,h3⟩,h4⟩
  obtain⟨hd,h⟩:=k9 h;exact⟨σ,_,[],_,_,_,h,gi hl,.inl rfl,hd,.inr ⟨rfl,rfl,rfl⟩,tV⟩
 ·rename_i hl
  split at h
  ·obtain⟨svs,s,md,e,h1,h2,h3,h4⟩:=run1 hr h rfl;exact⟨σ,_,svs,s,md,e,h1,gi hl,.inl rfl,h2,.inl ⟨rfl,h3⟩,h4⟩
  obtain⟨hd,h⟩:=k9 h;exact⟨σ,_,[],_,_,_,h,gi hl,.inl rfl,hd,.inr ⟨rfl,rfl,rfl⟩,tV⟩
 ·rename_i p ip hl
  by_cases hp:p
  ·have hr':=hr.refine hl (zbV hp)
   split at h
   ·obtain⟨svs,s,md,e,h1,h2,h3,h4⟩:=run1 hr' (h.yes hp) rfl;exact⟨_,_,svs,s,md,e,h1,gi (put_look _),.inr ⟨t,_,_,hl,zbV hp,rfl⟩,h2,.inl ⟨rfl,h3⟩,h4⟩
   obtain⟨hd,h⟩:=k9 (h.yes hp);exact⟨_,_,[],_,_,_,h,gi (put_look _),.inr ⟨t,_,_,hl,zbV hp,rfl⟩,hd,.inr ⟨rfl,rfl,rfl⟩,tV⟩
  have hr':=hr.refine hl (zaq hp)
  split at h
  ·obtain⟨hd,h⟩:=k9 (h.no hp);exact⟨_,_,[],_,_,_,h,gi (put_look _),.inr ⟨t,_,_,hl,zaq hp,rfl⟩,hd,.inr ⟨rfl,rfl,rfl⟩,tV⟩
  obtain⟨svs,s,md,e,h1,h2,h3,h4⟩:=run1 hr' (h.no hp) rfl;exact⟨_,_,svs,s,md,e,h1,gi (put_look _),.inr ⟨t,_,_,hl,zaq hp,rfl⟩,h2,.inl ⟨rfl,h3⟩,h4⟩
 ·rename_i hl;obtain⟨hd,h⟩:=k9 h;exact⟨σ,_,[],_,_,_,h,gv hl,.inl rfl,hd,.inr ⟨rfl,rfl,rfl⟩,tV⟩
 exact h.elim
structure Lex1 (P:Program) (all:List Oper) (E:Env) (σ0:St) (i0:Nat) (T:Nat->St) (s:Nat->SV) (md:Nat->MD) (run:Nat->Bool) (svs:Nat->LQ) (ent:Nat->Ent):Prop where
 start:zel (T i0) σ0
 next:∀(j:Nat) (o:Oper),i0<=j->all[j]?=some o->zel (T (j+1)) ((T j).app o.dst (s j) (md j))
 dst:∀(j:Nat) (o:Oper),i0<=j->all[j]?=some o->∀t,o.dst=some t->t<σ0.nt
 guard:∀(j:Nat) (o:Oper),i0<=j->all[j]?=some o->qB all (T j) o (run j)
 step:∀(j:Nat) (o:Oper),i0<=j->all[j]?=some o->(run j=true/\ziV P o (T j) (svs j) (s j) (md j) (λk=>zct (ent j).u (ent j).nk k=true)/\(ent j).t=zgx (T j).nk (md j))∨
  (run j=false/\s j=.val undef/\md j=.none)
 pw:∀j:Nat,i0<=j->j<=all.length->(T j).M.Pairwise λa b=>a.1≠b.1
 nodrop:∀(j:Nat) (o:Oper),i0<=j->all[j]?=some o->zbW (T j).nk (md j)
def zht{P:Program}{Γ:LS}(hT:TOK P Γ){all:List Oper}{E:Env}{K:St->Prop}:∀(l:List Oper) (i:Nat) (acc:List Ent) (σ:St) (ρ:ze) (a:Act) (w:World),i+l.length=all.length->
  (∀j:Nat,l[j]?=all[i+j]?)->acc.length=i->Rel E σ ρ a w->zak P Γ all l i acc σ K->∃T s md run svs ent A,Lex1 P all E σ i T s md run svs ent/\K (T all.length)/\ziE (zaV all all.length) A=true/\
   A.length=all.length/\(∃B,A=B++acc)/\∀j:Nat,i<=j->j<all.length->A[all.length-1-j]?=some (ent j)
 |[],i,acc,σ,ρ,a,w,hlen,hl,hacc,hr,h=>by
  have hi:i=all.length:=by simpa using hlen
  subst hi;refine⟨λ_=>σ,λ_=>.junk,λ_=>.none,λ_=>false,λ_=>[],λ_=>zlb,acc,⟨.refl,?_,?_,?_,?_,λ_ _ _=>hr.mem.keys,?_⟩,h.go,h.ob,hacc,⟨[],rfl⟩,λj h1 h2=>by omega⟩ <;>
  ·intro j o hj ho;have:=(Xd.1 ho).1;omega
 |o::r,i,acc,σ,ρ,a,w,hlen,hl,hacc,hr,h=>by
  have h0:all[i]?=some o:=by simpa using (hl 0).symm
  obtain⟨σ',run0,svs0,s0,md0,e0,h1,hg,href,hd,hrun,hnd⟩:=zuR hT hr h
  have hr':Rel E σ' ρ a w:=by
   rcases href with rfl|⟨t,s0,s1,h2,h3,rfl⟩
   ·exact hr
   exact hr.refine h2 h3
  have hnt:σ'.nt=σ.nt:=by rcases href with rfl|⟨t,s0,s1,h2,h3,rfl⟩ <;> rfl
  have href':zel σ' σ:=by
   rcases href with rfl|⟨t,s2,s1,h2,h3,rfl⟩
   ·exact .refl
   refine⟨rfl,rfl,rfl,rfl,λt' s' hl'=>?_⟩;have hl':(if t=t' then some s1 else z6 σ.L t')=some s':=by rw[←zK];exact hl'
   by_cases e:t=t'
   ·subst e;rw[Xe rfl]at hl';cases hl'
    exact⟨s2,h2,h3⟩
   rw[Xb e]at hl';exact⟨s',hl',λ_ _ _ _ _ h=>h⟩
  have hnext:∃ρ1 a1 w1,Rel E (σ'.app o.dst s0 md0) ρ1 a1 w1:=by
   obtain⟨_,hst,_⟩|⟨_,rfl,rfl⟩:=hrun
   ·obtain⟨v,w1,ha⟩:=(hst.does hr').ex;obtain⟨ρ1,hr1⟩:=hr'.app (λt e=>hnt ▸ hd t e) ha;exact⟨ρ1,_,w1,hr1⟩
   obtain⟨ρ1,hr1⟩:=hr'.app (λt e=>hnt ▸ hd t e) (ub hr'.mem);exact⟨ρ1,_,w,hr1⟩
  obtain⟨ρ1,a1,w1,hr1⟩:=hnext;obtain⟨T,s,md,run,svs,ent,A,hlex,hK,hA,hAl,⟨B,hB⟩,hAe⟩:=zht hT r (i+1) (e0::acc) _ ρ1 a1 w1 (by simp at hlen;omega) (λj=>by have:=hl (j+1);simpa[KE,Q0 1 j] using this) (by simp[hacc]) hr1 h1;have hapn:(σ'.app o.dst s0 md0).nt=σ.nt:=hnt;have hil:i<all.length:=(Xd.1 h0).1
  refine⟨λj=>if j=i then σ' else T j,λj=>if j=i then s0 else s j,λj=>if j=i then md0 else md j,λj=>if j=i then run0 else run j,λj=>if j=i then svs0 else svs j,λj=>if j=i then e0 else ent j,A,
   ⟨by simpa using href',?_,?_,?_,?_,?_,?_⟩,by simpa[show all.length≠i by omega] using hK,hA,hAl,⟨B++[e0],by simp[hB]⟩,?_⟩
  ·intro j oj hj ho
   by_cases e:j=i
   ·subst e;rw[h0]at ho;cases ho
    simpa using hlex.start
   have:=hlex.next j oj oM ho
   simpa[e,show j+1≠i by omega] using this
  ·intro j oj hj ho t ht
   by_cases e:j=i
   ·subst e;rw[h0]at ho;cases ho
    exact hd t ht
   exact hapn ▸ hlex.dst j oj oM ho t ht
  ·intro j oj hj ho
   by_cases e:j=i
   ·subst e;rw[h0]at ho;cases ho
    simpa using hg
   simpa[e] using hlex.guard j oj oM ho
  ·intro j oj hj ho
   by_cases e:j=i
   ·subst e;rw[h0]at ho;cases ho
    simpa using hrun
   simpa[e] using hlex.step j oj oM ho
  ·intro j hj hjl
   by_cases e:j=i
   ·subst e
    simpa using hr'.mem.keys
   simpa[e] using hlex.pw j oM hjl
  ·intro j oj hj ho
   by_cases e:j=i
   ·subst e
    simpa using hnd
   simpa[e] using hlex.nodrop j oj oM ho
  intro j hj hjl
  by_cases e:j=i
  ·subst e
   have hBl:B.length=all.length-1-j:=by
    have:=Xj List.length hB;simp[hAl,hacc]at this;omega
   simp only[if_true];rw[hB,XB oM,hBl];simp
  simpa[e] using hAe j oM hjl
def zfA(hT:TOK P Γ){w:World}(hr:Rel E σ ρ a w)(hord:zeM ops.toList=true)(h:zak P Γ ops.toList ops.toList 0 [] σ K)(hQ:∀σ ρ a w,K σ->Rel E σ ρ a w->Q .normal a w):wpAny P .any ops Q ops.size (Array.replicate ops.size false) a { w with drawn:=w.drawn+1 }:=
 zlp hr (λw hr=>by
  obtain⟨T,s,md,run,svs,ent,A,hlex,hK,hA,hAl,_,hAe⟩:=zht hT ops.toList 0 [] σ ρ a w sI (λj=>by simp) rfl hr h;obtain⟨hedges,hslot⟩:=zuQ hord
  refine⟨T,s,md,run,svs,λj k=>zct (ent j).u (ent j).nk k=true/\run j=true,⟨hlex.start,λj o ho=>hlex.next j o (Xg _) ho,λj o ho=>hlex.dst j o (Xg _) ho,λj o ho=>hlex.guard j o (Xg _) ho,
   λj o ho=>?_,λj hj=>hlex.pw j (Xg _) hj,λj o ho=>hlex.nodrop j o (Xg _) ho,hedges,hslot,λi j hij hjl k hk=>?_⟩,hK⟩
  ·rcases hlex.step j o (Xg _) ho with⟨h1,h2,_⟩|h1
   ·obtain⟨lm,h3,h4⟩:=h2.ok;exact .inl ⟨h1,⟨lm,h3,λk m hk=>⟨⟨(h4 k m hk).1,h1⟩,(h4 k m hk).2⟩⟩,h2.ev⟩
   exact .inr h1
  have tch:∀q:Nat,q<ops.toList.length->qC T md q k->zeb k (ent q).t=true:=λq hq ht=>by
   rcases hlex.step q _ (Xg _) (Xa hq) with⟨_,_,h3⟩|⟨_,_,h3⟩
   ·rw[h3];exact zrk ht
   unfold qC at ht;rw[h3]at ht;exact ht.elim
  have hc:zoi (ent i) (ent j)=true:=by
   unfold zoi
   obtain⟨ht,hu|ht2⟩|⟨hu,ht2⟩:=hk
   ·rw[ziX (tch i oM ht) (.inl hu.1)]
   ·rw[ziX (tch i oM ht) (.inr (tch j hjl ht2))]
   rw[zoH (tch j hjl ht2) hu.1];split <;> rfl
  have h1:=hAe i (Xg _) oM;have h2:=hAe j (Xg _) hjl;rw[←hAl]at h1 h2
  exact zcT _ _ j i hjl (ziY hA i j _ _ hij oM h1 h2 hc)) hQ
def zoK(hT:TOK P Γ)(hm:P.follows .mixedOrders=true){id:Nat}{w:World}(hr:Rel E σ ρ a w)(hord:zeM ops.toList=true)(h:zak P Γ ops.toList ops.toList 0 [] σ K)(hQ:∀σ ρ a w,K σ->Rel E σ ρ a w->Q .normal a w):(Code.region id ops true).wp P Q a w:=
 wp_region_any hm (zfA hT hr hord h hQ)
def uc(E:Env)(Q:LF):LC
 |.normal,a,w=>∃σ ρ,Q .normal σ/\Rel E σ ρ a w
 |.exit id,a,w=>∃σ ρ,Q (.exit id) σ/\Rel E σ ρ a w
 |.ret,a,w=>∃σ ρ,Q .ret σ/\Rel E σ ρ a w
 |_,_,_=>False
def ky{P:Program}{Γ:LS}(hT:TOK P Γ)(hm:P.follows .mixedOrders=true){E:Env}:∀(c:Code) {σ:St} {Q:LF} {ρ:ze} {a:Act} {w:World},
  Rel E σ ρ a w->qS P Γ c σ Q->c.wp P (uc E Q) a w
 |.skip,σ,Q,ρ,a,w,hr,h=>wp_skip ⟨σ,ρ,h,hr⟩
 |.region id ops draw,σ,Q,ρ,a,w,hr,h=>by
  cases draw with
  |false=>
   have h:uu P Γ false ops.toList ops.toList 0 σ (Q .normal):=h;refine wp_region_list ?_;have:=zib (Q:=uc E Q) hT (λσ ρ a w h hr=>⟨σ,ρ,h,hr⟩) hr h
   simpa using this
  |true=>
   have h:Dr (uD ops.toList=true) (uu P Γ true ops.toList ops.toList 0 σ (Q .normal)) (Ob (zeM ops.toList=true) (zak P Γ ops.toList ops.toList 0 [] σ (Q .normal))):=h
   obtain⟨h1,h2⟩|⟨h1,h2⟩:=h
   ·exact zrj hT hm hr h1 h2 λσ ρ a w h hr=>⟨σ,ρ,h,hr⟩
   exact zoK hT hm hr h1 h2 λσ ρ a w h hr=>⟨σ,ρ,h,hr⟩
 |.seq x y,σ,Q,ρ,a,w,hr,h=>by
  refine wp_seq (Code.wp_mono (λe a' w' hq=>?_) (ky hT hm x hr h))
  cases e with
  |normal=>obtain⟨σ',ρ',h',hr'⟩:=hq;exact ky hT hm y hr' h'
  |exit id=>exact hq
  |ret=>exact hq
  |_=>exact hq.elim
 |.cond c x y,σ,Q,ρ,a,w,hr,h=>by
  obtain⟨s,h,hs⟩:=zbU h;have hg:=hs (a:=a) (λt s _ hl=>(hr.regs t s hl).2)
  split at h
  ·exact wp_cond_true hg.val_inv (ky hT hm x hr h)
  ·exact wp_cond_false hg.val_inv (ky hT hm y hr h)
  ·rename_i p i
   by_cases hp:p
   ·exact wp_cond_true (by rw[hg.pr_inv];simp[hp]) (ky hT hm x hr (h.yes hp))
   exact wp_cond_false (by rw[hg.pr_inv];simp[hp]) (ky hT hm y hr (h.no hp))
  ·obtain⟨b,hb⟩:=hg.anyb_inv
   cases b with
   |true=>exact wp_cond_true hb (ky hT hm x hr h.yes)
   |false=>exact wp_cond_false hb (ky hT hm y hr h.no)
  exact h.elim
 |.block id c,σ,Q,ρ,a,w,hr,h=>by
  refine wp_block (Code.wp_mono (λe a' w' hq=>?_) (ky hT hm c hr h))
  cases e with
  |normal=>exact hq
  |exit j=>
   obtain⟨σ',ρ',h',hr'⟩:=hq;dsimp only at h';show(if j=id then uc E Q .normal a' w' else uc E Q (.exit j) a' w')
   split at h'
   ·rename_i hb;rw[Xe (Xh hb)];exact⟨σ',ρ',h',hr'⟩
   rename_i hb;rw[Xb (KO hb)];exact⟨σ',ρ',h',hr'⟩
  |ret=>exact hq
  |_=>exact hq.elim
 |.loop c,σ,Q,ρ,a,w,hr,h=>by
  obtain⟨ι,S,I,μ,x0,h0,hsub,hround⟩:=h;obtain⟨ρ0,hr0⟩:=hsub E ρ a w hr;refine wp_loop_ghost (λn a w=>∃x ρ,I x/\μ x=n/\Rel E (S x) ρ a w) (μ x0) ⟨x0,ρ0,h0,rfl,hr0⟩ λn a w hI=>?_
  obtain⟨x,ρ1,h1,rfl,hr1⟩:=hI;refine Code.wp_mono (λe a' w' hq=>?_) (ky hT hm c hr1 (hround x h1))
  cases e with
  |normal=>
   obtain⟨σ',ρ',⟨x',h2,hs2,hlt⟩,hr'⟩:=hq;obtain⟨ρ2,hr2⟩:=hs2 E ρ' a' w' hr';exact⟨μ x',hlt,x',ρ2,h2,rfl,hr2⟩
  |exit id=>exact hq
  |ret=>exact hq
  |_=>exact hq.elim
 |.exit id,σ,Q,ρ,a,w,hr,h=>wp_exit ⟨σ,ρ,h,hr⟩
 |.ret,σ,Q,ρ,a,w,hr,h=>wp_ret ⟨σ,ρ,h,hr⟩
 |.rangeFunc _ _ _ _,_,_,_,_,_,_,h=>by cases h
 |.scope c,σ,Q,ρ,a,w,hr,h=>by
  refine wp_scope_straight (Code.wp_mono (λe a' w' hq=>?_) (ky hT hm c hr h))
  cases e with
  |normal=>exact hq
  |exit j=>exact hq
  |ret=>exact hq
  |_=>exact hq.elim
 |.label _,σ,Q,ρ,a,w,hr,h=>wp_label ⟨σ,ρ,h,hr⟩
 |.goto _,_,_,_,_,_,_,h=>by cases h
 |.refuse _,_,_,_,_,_,_,h=>by cases h
def zoL(hT:TOK P Γ){x:ResultVar}{K:SV->Prop}(h:zq6 σ Γ x K):∃s,K s/\∀{E:Env} {ρ:ze} {a:Act} {w:World},Rel E σ ρ a w->
  ∃v,((match x with|.tmp t=>pure (a.tmps.getD t undef)|.cell ad t=>do loadVar t (←asAddr (a.tmps.getD ad undef)):Sem Value)).run P w=.ok v w/\G (λb=>E.Keep b∨Own σ.M ρ b) (Own σ.M ρ) ρ w s v:=by
 unfold zq6 at h
 split at h
 ·split at h
  ·rename_i s hs;exact⟨s,qn h,λhr=>⟨_,rfl,(hr.regs _ s hs).2⟩⟩
  exact h.elim
 rename_i ad t;replace h:=zo h;obtain⟨i,hi,h⟩:=h
 split at h
 ·rename_i k off hl
  split at h
  ·rename_i T cs hlk;replace h:=zf h;obtain⟨hle,h⟩:=h;replace h:=uG h;obtain⟨s,hK,h⟩:=h;have hle:=Xx hle;refine⟨s,hK,λ{E ρ a w} hr=>?_⟩;obtain⟨b,vs,hρ,hheap,hlen,_,hcells⟩:=hr.mem.rel k _ (zn hlk);obtain⟨b',hρ',hx⟩:=(hr.regs ad _ hl).2.loc_inv;rw[hρ]at hρ';cases hρ'
   have hg:Gs (λb=>E.Keep b∨Own σ.M ρ b) (Own σ.M ρ) ρ w (cs.drop off) (vs.drop off):=Gs.drop off ⟨hlen,hcells⟩;obtain⟨v,h1,h2⟩:=zbl (hT t i hi) (b:=b) (o:=off) hg (λj v hv=>by rw[zbm hheap];simpa using hv) (by simp;omega) h;exact⟨v,by simp only[hx,asAddr,Sem.run_bind,Sem.run_pure,Result.andThen_ok,h1],h2⟩
  exact h.elim
 exact h.elim
def zhu{P:Program}{Γ:LS}(hT:TOK P Γ){σ:St}:∀{xs:List ResultVar} {K:LQ->Prop},zwU σ Γ xs K->∃l,K l/\∀{E:Env} {ρ:ze} {a:Act} {w:World},Rel E σ ρ a w->
  ∃vs,(xs.mapM λx=>(match x with|.tmp t=>pure (a.tmps.getD t undef)|.cell ad t=>do loadVar t (←asAddr (a.tmps.getD ad undef)):Sem Value)).run P w=.ok vs w/\Gs (λb=>E.Keep b∨Own σ.M ρ b) (Own σ.M ρ) ρ w l vs
 |[],K,h=>⟨[],h,λ_=>⟨[],rfl,.nil⟩⟩
 |x::xs,K,h=>by
  obtain⟨s,h,h1⟩:=zoL hT h;obtain⟨l,h,h2⟩:=zhu hT h;refine⟨s::l,h,λ{E ρ a w} hr=>?_⟩;obtain⟨v,g1,g2⟩:=h1 hr;obtain⟨vs,g3,g4⟩:=h2 hr;exact⟨v::vs,by rw[List.mapM_cons,Sem.run_bind,g1,Result.andThen_ok,Sem.run_bind,g3,Result.andThen_ok,Sem.run_pure],.cons g2 g4⟩
variable{fn:Func}
def jb(hT:TOK P Γ){K:SV->Prop}(h:zal σ Γ fn.results.toList K):∃s,K s/\∀{E:Env} {ρ:ze} {a:Act} {w:World},Rel E σ ρ a w->
  ∃v,(results fn a.tmps).run P w=.ok v w/\G (λb=>E.Keep b∨Own σ.M ρ b) (Own σ.M ρ) ρ w s v:=by
 unfold zal at h;obtain⟨l,h,h1⟩:=zhu hT h
 have run:∀{a:Act} {w:World} {vs:LZ},(fn.results.toList.mapM λx=>(match x with|.tmp t=>pure (a.tmps.getD t undef)|.cell ad t=>do loadVar t (←asAddr (a.tmps.getD ad undef)):Sem Value)).run P w=.ok vs w->
   (results fn a.tmps).run P w=.ok (if h:vs.toArray.size=1 then vs.toArray[0] else .tuple vs.toArray) w:=by
  intro a w vs hv
  have e:(fn.results.mapM λx=>(match x with|.tmp t=>pure (a.tmps.getD t undef)|.cell ad t=>do loadVar t (←asAddr (a.tmps.getD ad undef)):Sem Value)).run P w=.ok vs.toArray w:=by
   rw[Array.mapM_eq_mapM_toList,Sem.run_map,hv];rfl
  unfold results;rw[Sem.run_bind]
  erw [e]
  rfl
 split at h
 ·rename_i s;refine⟨s,h,λ{E ρ a w} hr=>?_⟩;obtain⟨vs,g1,g2⟩:=h1 hr;obtain⟨v,vs',rfl,g3,g4⟩:=g2.cons_inv;rw[g4.nil_inv]at g1;exact⟨v,by rw[run g1];rfl,g3⟩
 rename_i hne;refine⟨_,h,λ{E ρ a w} hr=>?_⟩;obtain⟨vs,g1,g2⟩:=h1 hr;refine⟨.tuple vs.toArray,?_,.tup _ vs g2.1 g2.2⟩;rw[run g1]
 have hl:¬vs.toArray.size=1:=by
  intro e;have:l.length=1:=by rw[←g2.1];simpa using e
  match l,this with
  |[s],_=>exact hne s rfl
 rw[dif_neg hl]
def zhv:∀(l:LQ) (n t:Nat),z6 (qI n l) t=if n<=t then l[t-n]? else none
 |[],n,t=>by simp[qI,z6]
 |s::l,n,t=>by
  simp only[qI,zK,zhv l (n+1) t]
  by_cases h:n=t
  ·subst h;simp
  rw[Xb h]
  by_cases h2:n<=t
  ·rw[Xe oM,Xe h2,show t-n=(t-(n+1))+1 by omega,KW]
  rw[Xb oM,Xb h2]
variable{M:LT}{S':LG}{Pm':LG}{ρ':ze}
def zm6{Keep:LG}{w:World}(hlm:∀k m,lm k=some m->(k,m)∈M)(hm:zB Keep M ρ w)(hsub:∀b,S' b->Keep b∨Own M ρ b){s:SV}{v:Value}(hg:G (λb=>Keep b∨Own M ρ b) (Own M ρ) ρ w s v)(hc:∀b,Own M ρ b->¬S' b)(hP:∀b,¬Pm' b):
  G S' Pm' ρ' w (zlc lm s) v:=by
 unfold zlc
 split
 ·rename_i cs;obtain⟨vs,rfl,hvs⟩:=hg.tup_inv;have h:=ziJ (S':=S') (Pm':=Pm') (ρ':=ρ') hlm hm hsub (λb _=>hP b) (λ_ _ b _ _=>hP b) hvs (.inr hc);exact .tup _ vs h.1 h.2
 exact zm1 hlm hm hsub hg (.inr hc) (λb _=>hP b) (λ_ _ b _ _=>hP b)
def uw{Keep:LG}{M:LT}{ρ:ze}{w:World}{args:LQ}{vs:LZ}{nt:Nat}(hm:zB Keep M ρ w)(hρ:∀k,M.length<=k->ρ k=none)(hg:Gs (λb=>Keep b∨Own M ρ b) (Own M ρ) ρ w args vs)(hle:args.length<=nt):
  Rel ⟨w,ρ,Keep,Own M ρ,[]⟩ ⟨qI 0 args,M,M.length,nt,M.length⟩ ρ { tmps:=vs.toArray++Array.replicate (nt-vs.toArray.size) undef,defers:=[] } w:=by
 have hl:=hg.1;refine⟨by simp;omega,rfl,λt s h=>?_,hm,hρ,.refl,hm.kp,λk v h=>?_⟩;rotate_left
 ·rcases X7 k M.length with h1|h1
  ·exact h1
  have h:ρ k=some v:=h;rw[hρ k h1]at h;cases h
 have h:z6 (qI 0 args) t=some s:=h;rw[zhv]at h;simp only[Xg,if_true,Nat.sub_zero]at h;have hlt:=(Xd.1 h).1;refine⟨show t<nt by omega,hg.2 t s _ h ?_⟩;have:t<vs.length:=oM
 have e:(vs.toArray++Array.replicate (nt-vs.toArray.size) undef)[t]?=some vs[t]:=by
  rw[Array.getElem?_append_left (by simpa using this)];simp[this]
 rw[Xa this,X8,e];rfl
def Sub.refl{σ:St}:Sub σ σ:=λ_ ρ _ _ hr=>⟨ρ,hr⟩
variable{f:FuncId}{c:Code}{r:SV}
def u5(hT:TOK P Γ)(hm:P.follows .mixedOrders=true){args:LQ}{Q:LF}(hf:P.funcs[f]?=some fn)(hb:fn.body=some c)(hn:(fn.name== "runtime.NumGoroutine")=false) (hle:Nat.ble args.length fn.ntmps=true)
  (h:qS P Γ c ⟨qI 0 args,M,M.length,fn.ntmps,M.length⟩ Q){M':LT} {Q':LF} (hS:∀e σ,Q e σ->∃σ',Sub σ σ'/\Q' e σ')
  (hQ:∀e σ,Q' e σ->(∀id,e≠.exit id)->∃s,(∀{E:Env} {ρ:ze} {a:Act} {w:World},Rel E σ ρ a w->∃v,(results fn a.tmps).run P w=.ok v w/\G (λb=>E.Keep b∨Own σ.M ρ b) (Own σ.M ρ) ρ w s v)/\
   ∀{E:Env} {ρ:ze} {a:Act} {w:World} {v:Value},Rel E σ ρ a w->(∀b,E.W0 b↔Own M E.ρ0 b)->(∀k,M.length<=k->E.ρ0 k=none)->G (λb=>E.Keep b∨Own σ.M ρ b) (Own σ.M ρ) ρ w s v->
    ∃ρ',Stp (Own M E.ρ0) (Own M' ρ') E.ρ0 ρ' E.w0 w/\zB E.Keep M' ρ' w/\G (λb=>E.Keep b∨Own M' ρ' b) (Own M' ρ') ρ' w r v)
  (hx:∀id σ,¬Q' (.exit id) σ):kK P f args M r M':=by
 refine⟨⟨fn,hf,hn,by rw[hb];rfl⟩,λKeep ρ w vs _ hmem hρ hg=>calls_of_wp hf hb ?_⟩;have hrel:=uw (nt:=fn.ntmps) hmem hρ hg (Xx hle);refine Code.wp_mono (λe a' w' hq=>?_) (ky hT hm c hrel h)
 have fin:∀e σ ρ1,Q e σ->(∀id,e≠.exit id)->Rel ⟨w,ρ,Keep,Own M ρ,[]⟩ σ ρ1 a' w'->a'.defers=[]/\∃v,(results fn a'.tmps).run P w'=.ok v w'/\∃v' ρ',Ending.returned v=.returned v'/\Stp (Own M ρ) (Own M' ρ') ρ ρ' w w'/\
   zB Keep M' ρ' w'/\G (λb=>Keep b∨Own M' ρ' b) (Own M' ρ') ρ' w' r v':=by
  intro e σ0 ρ0 hq0 he hr0;obtain⟨σ,hsub,hq⟩:=hS e σ0 hq0;obtain⟨ρ1,hr⟩:=hsub _ _ _ _ hr0;obtain⟨s,h1,h2⟩:=hQ e σ hq he;obtain⟨v,g1,g2⟩:=h1 hr;obtain⟨ρ',g3,g4,g5⟩:=h2 hr (λ_=>Qd) hρ g2;exact⟨hr.defers,v,g1,v,ρ',rfl,g3,g4,g5⟩
 cases e with
 |normal=>obtain⟨σ,ρ1,hq,hr⟩:=hq;exact fin _ σ ρ1 hq (λ_=>by simp) hr
 |ret=>obtain⟨σ,ρ1,hq,hr⟩:=hq;exact fin _ σ ρ1 hq (λ_=>by simp) hr
 |exit id=>obtain⟨σ,ρ1,hq,hr⟩:=hq;obtain⟨σ',_,hq'⟩:=hS _ σ hq;exact(hx id σ' hq').elim
 |_=>exact hq.elim
def zw3(hT:TOK P Γ)(hm:P.follows .mixedOrders=true){args:LQ}(hf:P.funcs[f]?=some fn)(hb:fn.body=some c)(hn:(fn.name== "runtime.NumGoroutine")=false) (hle:Nat.ble args.length fn.ntmps=true)
  (h:qS P Γ c ⟨qI 0 args,[],0,fn.ntmps,0⟩ (endV Γ fn.results.toList r)):kK P f args [] r []:=by
 refine u5 hT hm hf hb hn hle h (λe σ h=>⟨σ,.refl,h⟩) (λe σ hq he=>?_) (λid σ hq=>hq)
 have hq:zal σ Γ fn.results.toList λs=>LE (zlc (zH σ.M) s) r:=by
  cases e with
  |exit id=>exact absurd rfl (he id)
  |normal=>exact hq
  |ret=>exact hq
 obtain⟨s,hle,h1⟩:=jb hT hq;refine⟨s,h1,λ{E ρ a w v} hr hW _ hg=>⟨ρ,?_,?_,?_⟩⟩
 ·have hs:=hr.stp;exact⟨hs.os,hs.tape,hs.output,hs.size,λb hb hn=>hs.block b hb λh=>hn ((hW b).1 h),λb hb=>absurd hb zF,hs.rho⟩
 ·exact kS hr.mem.kp λ_ _ h=>hr.mem.glc h
 exact hle _ _ _ _ _ (zm6 (λk m h=>zn h) hr.mem (λb hb=>.inl (hb.resolve_right zF)) hg (λb hb hk=>(hr.mem.old b hb).2 (hk.resolve_right zF)) (λ_=>zF))
def zbd.g{k:LI}{s:SV}(h:zbd k s r){S Pm:LG}{w:World}{v0:Value}(hsub:∀b,S' b->S b)(h0:ρ' 0=some v0)(hk:∀k',k=some k'->ρ k'=some v0)(hn:k=none->v0=.slice none 0 0){v:Value}(hg:G S Pm ρ w s v):G S' Pm' ρ' w r v:=by
 induction h generalizing v with
 |own k' h=>
  obtain⟨g1,g2⟩:=hg.own_inv;rw[hk k' h]at g1;cases g1
  exact .own _ _ h0 g2
 |loc k' off h=>
  obtain⟨b,g1,rfl⟩:=hg.loc_inv;rw[hk k' h]at g1;cases g1
  exact .loc _ _ _ h0
 |nil h=>
  rw[hg.val_inv];exact .own _ _ (by rw[h0,hn h]) rfl
 |le s r h hf=>exact .d _ _ ((y9 hf (h _ _ _ _ _ hg)).less hsub)
 |junk s=>exact .d _ _ (.junk _)
 |agg cs ds hl h ih=>
  obtain⟨vs,rfl,hvs⟩:=hg.agg_inv;refine .agg _ vs (hvs.1.trans hl) λj r u hr hu=>?_
  have hj:j<cs.length:=by have:=(Xd.1 hr).1;omega
  exact ih j _ r (Xa hj) hr (hvs.2 j _ u (Xa hj) hu)
 |tup cs ds hl h ih=>
  obtain⟨vs,rfl,hvs⟩:=hg.tup_inv;refine .tup _ vs (hvs.1.trans hl) λj r u hr hu=>?_
  have hj:j<cs.length:=by have:=(Xd.1 hr).1;omega
  exact ih j _ r (Xa hj) hr (hvs.2 j _ u (Xa hj) hu)
 |fn f cs ds hl h ih=>
  obtain⟨vs,rfl,hvs⟩:=hg.fn_inv;refine .fn _ _ vs (hvs.1.trans hl) λj r u hr hu=>?_
  have hj:j<cs.length:=by have:=(Xd.1 hr).1;omega
  exact ih j _ r (Xa hj) hr (hvs.2 j _ u (Xa hj) hu)
def ziZ(hT:TOK P Γ)(hm:P.follows .mixedOrders=true){args:LQ}{Q:LF}(hf:P.funcs[f]?=some fn)(hb:fn.body=some c)(hn:(fn.name== "runtime.NumGoroutine")=false) (hle:Nat.ble args.length fn.ntmps=true)
  (h:qS P Γ c ⟨qI 0 args,[],0,fn.ntmps,0⟩ Q) (hS:∀e σ,Q e σ->∃σ',Sub σ σ'/\zq7 Γ fn.results.toList r m e σ'):kK P f args [] r [(0,m)]:=by
 refine u5 hT hm hf hb hn hle h hS (λe σ hq he=>?_) (λid σ hq=>hq)
 have hq:zal σ Γ fn.results.toList λs=>∃k,zbd k s r/\zC7 σ.M k m:=by
  cases e with
  |exit id=>exact absurd rfl (he id)
  |normal=>exact hq
  |ret=>exact hq
 obtain⟨s,⟨k,htk,hmk⟩,h1⟩:=jb hT hq;refine⟨s,h1,λ{E ρ a w v} hr hW hρ0 hg=>?_⟩;have hs:=hr.stp
 have main:∀v0:Value,(∀b,kI v0=some b->Own σ.M ρ b)->(∀k',k=some k'->ρ k'=some v0)->(k=none->v0=.slice none 0 0)->
   (∀S Pm:LG,(∀b,S b->E.Keep b∨Own σ.M ρ b)->je S Pm (one v0) w 0 m)->
   ∃ρ',Stp (Own [] E.ρ0) (Own [(0,m)] ρ') E.ρ0 ρ' E.w0 w/\zB E.Keep [(0,m)] ρ' w/\G (λb=>E.Keep b∨Own [(0,m)] ρ' b) (Own [(0,m)] ρ') ρ' w r v:=by
  intro v0 hown hk hnone hrel;have hsub:∀b,Own [(0,m)] (one v0) b->Own σ.M ρ b:=λb hb=>hown b (zaZ.1 hb)
  refine⟨one v0,⟨hs.os,hs.tape,hs.output,hs.size,λb hb hn=>hs.block b hb λh=>hn ((hW b).1 h),λb hb=>(hs.own b (hsub b hb)).imp (hW b).1 id,λk' v' hv'=>?_⟩,?_,?_⟩
  ·rw[hρ0 k' (Xg _)]at hv';cases hv'
  ·refine⟨λk' m1 h=>?_,XY.2 ⟨λ_ h=>(by cases h),List.Pairwise.nil⟩,λk1 m1 k2 m2 _ _ _ h1 h2 hne=>?_,λb hb=>hr.mem.old b (hsub b hb),hr.mem.kp,hr.mem.glO hsub⟩
   ·cases h with
    |head=>exact hrel _ _ λb hb=>hb.imp id (hsub b)
    |tail _ h=>cases h
   cases h1 with
   |head=>cases h2 with
    |head=>exact absurd rfl hne
    |tail _ h=>cases h
   |tail _ h=>cases h
  exact htk.g (λb hb=>hb.imp id (hsub b)) yQ hk hnone hg
 cases k with
 |some k'=>
  obtain⟨hlk,hfm⟩:=hmk;have hmem:=zn hlk;obtain⟨v0,hv0⟩:=(hr.mem.rel k' m hmem).name
  exact main v0 (λb hb=>⟨k',m,v0,hmem,hv0,hb⟩) (λk2 e=>by cases e;exact hv0) (λe=>by cases e)
   λS Pm hS=>je.move (by rw[yQ,hv0]) hfm (λs u _ hd=>.inl (hd.less hS)) (hr.mem.rel k' m hmem)
 |none=>
  cases m with
  |box T cs=>exact hmk.elim
  |garr T sz xs=>exact hmk.elim
  |map es=>exact hmk.elim
  |arr T enc sz xs=>
   have hx:xs=[]:=hmk;subst hx
   exact main (.slice none 0 0) (λb hb=>by simp[kI]at hb) (λ_ e=>by cases e) (λ_=>rfl)
    λS Pm _=>⟨.slice none 0 0,[],yQ,World.ownsRow_nil w 0 T sz,sI,λu hu=>(by cases hu),λx hx=>(by cases hx),λi j x s hx=>(by simp at hx)⟩
def qu(hT:TOK P Γ)(hm:P.follows .mixedOrders=true){args:LQ}(hf:P.funcs[f]?=some fn)(hb:fn.body=some c)(hn:(fn.name== "runtime.NumGoroutine")=false) (hle:Nat.ble args.length fn.ntmps=true)
  (h:qS P Γ c ⟨qI 0 args,[],0,fn.ntmps,0⟩ (zq7 Γ fn.results.toList r m)):kK P f args [] r [(0,m)]:=
 ziZ hT hm hf hb hn hle h λ_ σ h=>⟨σ,.refl,h⟩
def zem(hT:TOK P Γ)(hm:P.follows .mixedOrders=true){args:LQ}(hf:P.funcs[f]?=some fn)(hb:fn.body=some c)(hn:(fn.name== "runtime.NumGoroutine")=false) (hle:Nat.ble args.length fn.ntmps=true)
  (h:qS P Γ c ⟨qI 0 args,[],0,fn.ntmps,0⟩ (λe σ=>∃σ',Sub σ σ'/\zq7 Γ fn.results.toList r m e σ')):kK P f args [] r [(0,m)]:=
 ziZ hT hm hf hb hn hle h λ_ _ h=>h
def kK.plain{args:LQ}{r':SV}(h:kK P f args [] r [(0,m)])(e:zlc (zH [(0,m)]) r=r'):kK P f args [] r' []:=by
 subst e;refine⟨h.1,λKeep ρ w vs hk hm hρ hg=>(h.2 Keep ρ w vs hk hm hρ hg).mono λ_ _ ⟨v,ρ',e,hs,hm',hgr⟩=>?_⟩;refine⟨v,ρ,e,⟨hs.os,hs.tape,hs.output,hs.size,hs.block,λb hb=>.inl (zF hb |>.elim),λ_ _ h=>h⟩,kS hm'.kp (λ_ _ h=>hm'.glc h),?_⟩;exact zm6 (λk m h=>zn h) hm' (λb hb=>hb.elim .inl λh=>(zF h).elim) hgr (λb hb hSb=>hSb.elim (hm'.old b hb).2 λh=>zF h) (λb=>zF)
def yA(hT:TOK P Γ)(hm:P.follows .mixedOrders=true){args:LQ}{m':Mem}(hf:P.funcs[f]?=some fn)(hb:fn.body=some c)(hn:(fn.name== "runtime.NumGoroutine")=false) (hle:Nat.ble args.length fn.ntmps=true) (hfm:zfg m') (hfr:zit r=true)
  (h:qS P Γ c ⟨qI 0 args,[(0,m)],1,fn.ntmps,1⟩ (zDN Γ fn.results.toList r m')):kK P f args [(0,m)] r [(0,m')]:=by
 refine u5 hT hm hf hb hn hle h (λe σ h=>⟨σ,.refl,h⟩) (λe σ hq he=>?_) (λid σ hq=>hq)
 have hq:zal σ Γ fn.results.toList λs=>(zH σ.M 0=some m'/\LE s r):=by
  cases e with
  |exit id=>exact absurd rfl (he id)
  |normal=>exact hq
  |ret=>exact hq
 obtain⟨s,⟨hlk,hle⟩,h1⟩:=jb hT hq;refine⟨s,h1,λ{E ρ a w v} hr hW hρ0 hg=>?_⟩;have hs:=hr.stp;have hmem:=zn hlk;obtain⟨v0,hv0⟩:=(hr.mem.rel 0 m' hmem).name;have hsub:∀b,Own [(0,m')] (one v0) b->Own σ.M ρ b:=λb hb=>⟨0,m',v0,hmem,hv0,zaZ.1 hb⟩
 refine⟨one v0,⟨hs.os,hs.tape,hs.output,hs.size,λb hb hn=>hs.block b hb λh=>hn ((hW b).1 h),λb hb=>(hs.own b (hsub b hb)).imp (hW b).1 id,λk' v' hv'=>?_⟩,?_,?_⟩
 ·by_cases hk:k'=0
  ·subst hk;have:=hs.rho 0 v' hv';rw[hv0]at this;cases this;exact yQ
  rw[hρ0 k' (by simp;omega)]at hv';cases hv'
 ·refine⟨λk' m1 h=>?_,XY.2 ⟨λ_ h=>(by cases h),List.Pairwise.nil⟩,λk1 m1 k2 m2 _ _ _ h1 h2 hne=>?_,λb hb=>hr.mem.old b (hsub b hb),hr.mem.kp,hr.mem.glO hsub⟩
  ·cases h with
   |head=>exact je.move (by rw[yQ,hv0]) hfm (λs u _ hd=>.inl (hd.less λb hb=>hb.imp id (hsub b))) (hr.mem.rel 0 m' hmem)
   |tail _ h=>cases h
  cases h1 with
  |head=>cases h2 with
   |head=>exact absurd rfl hne
   |tail _ h=>cases h
  |tail _ h=>cases h
 exact zia (λb hb=>hb.imp id (hsub b)) hfr (hle _ _ _ _ _ hg)
end
end Go.Gs
