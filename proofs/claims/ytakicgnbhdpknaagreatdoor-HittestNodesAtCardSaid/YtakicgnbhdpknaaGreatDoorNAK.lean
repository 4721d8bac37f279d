/- A region that draws its order: the run in the order of its text serves for every order. -/
import Derived.Test.YtakicgnbhdpknaaGreatDoorNAJ
set_option maxRecDepth 100000
set_option maxHeartbeats 8000000
set_option linter.all false
namespace Go.Gs
section
def Down(all:List Oper)(D:LI):Prop:=∀i o,D i->all[i]?=some o->∀e∈o.after,Region.binds .any e=true->D e.on
def Anc(all:List Oper)(j i:Nat):Prop:=∀D:LI,Down all D->(∀o,all[j]?=some o->∀e∈o.after,Region.binds .any e=true->D e.on)->D i
def zej(all:List Oper)(n:Nat):(zbt all n).length=n:=by
 induction n with
 |zero=>rfl
 |succ n ih=>simp[zbt,ih]
def zma(all:List Oper):∀(n j:Nat),j<n->(zbt all n)[j]?=some (match all[j]? with|some o=>zrJ (zbt all j) o|none=>0)
 |0,j,h=>oM
 |n+1,j,h=>by
  simp only[zbt]
  by_cases hj:j<n
  ·rw[XK (by rw[zej];exact hj)];exact zma all n j hj
  have:j=n:=by omega
  subst this;rw[XG (by rw[zej];omega),zej];simp;rfl
def zdu(all:List Oper):∀(n j i:Nat),j<n->((zbt all n).getD j 0).testBit i=true->Anc all j i:=by
 intro n j
 induction j using Nat.strongRecOn generalizing n with
 |_ j ih=>
  intro i hj hbit D hD hedges;have hg:=zma all n j hj;rw[Xt,hg]at hbit
  cases ho:all[j]? with
  |none=>simp[ho]at hbit
  |some o=>
   simp only[ho,Qq]at hbit;unfold zrJ at hbit
   have key:∀(es:List Edge) (s0:Nat),(∀e∈es,e∈o.after)->(s0.testBit i=true->D i)->
     (es.foldl (λs e=>if Region.binds .any e then s|||2^e.on|||(zbt all j).getD e.on 0 else s) s0).testBit i=true->D i:=by
    intro es
    induction es with
    |nil=>intro s0 _ h0 h;exact h0 h
    |cons e es ihe=>
     intro s0 hes h0 h;simp only[Qw]at h;refine ihe _ (λe' he'=>hes e' (.tail _ he')) ?_ h;intro hb
     split at hb
     ·rename_i hbind;simp only[Nat.testBit_or,JB]at hb;have hde:D e.on:=hedges o ho e (hes e (.head _)) hbind
      rcases hb with(hb|hb)|hb
      ·exact h0 hb
      ·rw[Nat.testBit_two_pow]at hb;have:e.on=i:=by simpa using hb
       exact this ▸ hde
      by_cases hlt:e.on<j
      ·refine ih e.on hlt j i hlt hb D hD λo' ho'=>hD e.on o' hde ho'
      rw[Xt,XF (by rw[zej];omega)]at hb;simp at hb
     exact h0 hb
   exact key o.after.toList 0 (λe he=>by simpa using he) (λh=>by simp at h) hbit
variable{all:List Oper}
def zrX(h:vi all=true):(∀j o,all[j]?=some o->∀e∈o.after,Region.binds .any e=true->e.on<j)/\
  ∀i j oi oj,i<j->all[i]?=some oi->all[j]?=some oj->zuP all oi oj=true->Anc all j i:=by
 unfold vi at h;simp only[XC]at h;obtain⟨h1,h2⟩:=h;refine⟨λj o ho e he hb=>?_,λi j oi oj hij hi hj hc=>?_⟩
 ·have hjl:j<all.length:=(Xd.1 ho).1;have:=XQ.1 h1 j (Kd.2 hjl);simp only[ho]at this;have:=XQ.1 this e (by simpa using he);simp only[hb,QC,QN]at this;exact Xz this
 have hjl:j<all.length:=(Xd.1 hj).1;have:=XQ.1 h2 j (Kd.2 hjl);have:=XQ.1 this i (Kd.2 hij);simp only[hi,hj,hc,QC,Yu]at this;exact zdu all all.length j i hjl this
def zuZ{i:Nat}(h:znF all i=true):∀j oj,i<j->all[j]?=some oj->zc1 oj.op=true->Anc all j i:=by
 intro j oj hij hj hu;unfold znF at h;have hjl:j<all.length:=(Xd.1 hj).1;have:=XQ.1 h j (Kd.2 hjl)
 have hnb:Nat.ble j i=false:=by
  cases hb:Nat.ble j i with
  |false=>rfl
  |true=>have:=Xz hb;omega
 simp only[hj,hu,hnb,QC,Yu,QN]at this;exact zdu all all.length j i hjl this
def zjL{a b:LC}{t:Nat}(h1:t∈a)(h2:t∈b):zdj a b=true:=by
 unfold zdj;exact List.any_eq_true.2 ⟨t,h1,List.any_eq_true.2 ⟨t,h2,K8 t⟩⟩
def zeY(σ' σ:St):Prop:=σ'.M=σ.M/\σ'.nk=σ.nk/\σ'.nt=σ.nt/\σ'.n0=σ.n0/\∀t s',kK σ'.L t=some s'->∃s0,kK σ.L t=some s0/\∀S Pm ρ w v,G S Pm ρ w s0 v->G S Pm ρ w s' v
def zeY.refl{σ:St}:zeY σ σ:=⟨rfl,rfl,rfl,rfl,λ_ s h=>⟨s,h,λ_ _ _ _ _ h=>h⟩⟩
structure Lex0 (P:Program) (all:List Oper) (E:Env) (σ0:St) (i0:Nat) (T:Nat->St) (s:Nat->SV) (md:Nat->MD) (run:Nat->Bool) (svs:Nat->LR):Prop where
 start:zeY (T i0) σ0
 next:∀j o,i0<=j->all[j]?=some o->zeY (T (j+1)) ((T j).app o.dst (s j) (md j))
 dst:∀j o,i0<=j->all[j]?=some o->∀t,o.dst=some t->t<σ0.nt
 guard:∀j o,i0<=j->all[j]?=some o->qV all (T j) o (run j)
 step:∀j o,i0<=j->all[j]?=some o->(run j=true/\zl8 P true all j o (T j) (svs j) (s j) (md j))∨(run j=false/\s j=.val undef/\md j=.none)
 pw:∀j,i0<=j->j<=all.length->(T j).M.Pairwise λa b=>a.1≠b.1
def zjM{P:Program}{Γ:LS}(hT:TOK P Γ){all:List Oper}{E:Env}{K:St->Prop}:∀(l:List Oper) (i:Nat) (σ:St) (ρ:zh) (a:Act) (w:World),i+l.length=all.length->
  (∀j,l[j]?=all[i+j]?)->Rel E σ ρ a w->u4 P Γ true all l i σ K->∃T s md run svs,Lex0 P all E σ i T s md run svs/\K (T all.length)
 |[],i,σ,ρ,a,w,hlen,hl,hr,h=>by
  have hi:i=all.length:=by simpa using hlen
  subst hi;refine⟨λ_=>σ,λ_=>.junk,λ_=>.none,λ_=>false,λ_=>[],⟨.refl,?_,?_,?_,?_,λ_ _ _=>hr.mem.keys⟩,h⟩ <;>
  ·intro j o hj ho;have:=(Xd.1 ho).1;omega
 |o::r,i,σ,ρ,a,w,hlen,hl,hr,h=>by
  have h0:all[i]?=some o:=by simpa using (hl 0).symm
  obtain⟨σ',run0,svs0,s0,md0,h1,hg,href,hd,hrun⟩:=zgd hT hr h
  have hr':Rel E σ' ρ a w:=by
   rcases href with rfl|⟨t,s0,s1,h2,h3,rfl⟩
   ·exact hr
   exact hr.refine h2 h3
  have hnt:σ'.nt=σ.nt:=by rcases href with rfl|⟨t,s0,s1,h2,h3,rfl⟩ <;> rfl
  have href':zeY σ' σ:=by
   rcases href with rfl|⟨t,s2,s1,h2,h3,rfl⟩
   ·exact .refl
   refine⟨rfl,rfl,rfl,rfl,λt' s' hl'=>?_⟩;have hl':(if t=t' then some s1 else kK σ.L t')=some s':=by rw[←kq];exact hl'
   by_cases e:t=t'
   ·subst e;rw[Xe rfl]at hl';cases hl'
    exact⟨s2,h2,h3⟩
   rw[Xc e]at hl';exact⟨s',hl',λ_ _ _ _ _ h=>h⟩
  have hnext:∃ρ1 a1 w1,Rel E (σ'.app o.dst s0 md0) ρ1 a1 w1:=by
   obtain⟨_,hst⟩|⟨_,rfl,rfl⟩:=hrun
   ·obtain⟨v,w1,ha⟩:=(hst.does hr').ex;obtain⟨ρ1,hr1⟩:=hr'.app (λt e=>hnt ▸ hd t e) ha;exact⟨ρ1,_,w1,hr1⟩
   obtain⟨ρ1,hr1⟩:=hr'.app (λt e=>hnt ▸ hd t e) (uR hr'.mem);exact⟨ρ1,_,w,hr1⟩
  obtain⟨ρ1,a1,w1,hr1⟩:=hnext;obtain⟨T,s,md,run,svs,hlex,hK⟩:=zjM hT r (i+1) _ ρ1 a1 w1 (by simp at hlen;omega) (λj=>by have:=hl (j+1);simpa[KB,J6 1 j] using this) hr1 h1;have hapn:(σ'.app o.dst s0 md0).nt=σ.nt:=hnt;have hil:i<all.length:=(Xd.1 h0).1
  refine⟨λj=>if j=i then σ' else T j,λj=>if j=i then s0 else s j,λj=>if j=i then md0 else md j,λj=>if j=i then run0 else run j,λj=>if j=i then svs0 else svs j,
   ⟨by simpa using href',?_,?_,?_,?_,?_⟩,by simpa[show all.length≠i by omega] using hK⟩
  ·intro j oj hj ho
   by_cases e:j=i
   ·subst e;rw[h0]at ho;cases ho
    simpa using hlex.start
   have:=hlex.next j oj oM ho
   simpa[e,show j+1≠i by omega] using this
  ·intro j oj hj ho t ht
   by_cases e:j=i
   ·subst e;rw[h0]at ho;cases ho
    exact hd t ht
   exact hapn ▸ hlex.dst j oj oM ho t ht
  ·intro j oj hj ho
   by_cases e:j=i
   ·subst e;rw[h0]at ho;cases ho
    simpa using hg
   simpa[e] using hlex.guard j oj oM ho
  ·intro j oj hj ho
   by_cases e:j=i
   ·subst e;rw[h0]at ho;cases ho
    simpa using hrun
   simpa[e] using hlex.step j oj oM ho
  intro j hj hjl
  by_cases e:j=i
  ·subst e
   simpa using hr'.mem.keys
  simpa[e] using hlex.pw j oM hjl
def qW(T:Nat->St)(md:Nat->MD)(i k:Nat):Prop:=
 match md i with
 |.none=>False
 |.push _=>k=(T i).nk
 |.set k' _=>k=k'
 |.drop k'=>k=k'
 |.repl k' _=>k=k'∨k=(T i).nk
 |.give ks _ nn=>k∈ks∨((T i).nk<=k/\k<(T i).nk+nn)
def zcA(κ:Nat)(md:MD):Prop:=
 match md with
 |.give ks new nn=>(∀k m,(k,m)∈new->k∈ks∨(κ<=k/\k<κ+nn))/\∀k,κ<=k->k<κ+nn->∃m,(k,m)∈new
 |_=>True
structure zjN (P:Program) (o:Oper) (σ:St) (svs:LR) (s:SV) (md:MD) (U:LI):Prop where
 ok:∃lm:LJ,yR P o.op svs lm σ.nk s md/\∀k m,lm k=some m->U k/\zU σ.M k=some m
 ev:∀{S Pm:LI} {ρ:zh} {a:Act} {w:World},(∀t s,t∈zhc (qe o.op)->kK σ.L t=some s->G S Pm ρ w s (a.tmps.getD t undef))->Gs S Pm ρ w svs ((qe o.op).map a.eval)
structure Lex (P:Program) (all:List Oper) (E:Env) (σ0:St) (T:Nat->St) (s:Nat->SV) (md:Nat->MD) (run:Nat->Bool) (svs:Nat->LR) (U:Nat->LI):Prop where
 start:zeY (T 0) σ0
 next:∀(j:Nat) (o:Oper),all[j]?=some o->zeY (T (j+1)) ((T j).app o.dst (s j) (md j))
 dst:∀(j:Nat) (o:Oper),all[j]?=some o->∀t,o.dst=some t->t<σ0.nt
 guard:∀(j:Nat) (o:Oper),all[j]?=some o->qV all (T j) o (run j)
 step:∀(j:Nat) (o:Oper),all[j]?=some o->(run j=true/\zjN P o (T j) (svs j) (s j) (md j) (U j))∨(run j=false/\s j=.val undef/\md j=.none)
 pw:∀j:Nat,j<=all.length->(T j).M.Pairwise λa b=>a.1≠b.1
 nodrop:∀(j:Nat) (o:Oper),all[j]?=some o->zcA (T j).nk (md j)
 edges:∀(j:Nat) (o:Oper),all[j]?=some o->∀e∈o.after,Region.binds .any e=true->e.on<j
 slot:∀(i j:Nat) (oi oj:Oper),i<j->all[i]?=some oi->all[j]?=some oj->zju all oi oj=true->Anc all j i
 mem:∀(i j:Nat),i<j->j<all.length->∀k:Nat,(qW T md i k/\(U j k∨qW T md j k))∨(U i k/\qW T md j k)->Anc all j i
structure Inv (all:List Oper) (E:Env) (σ0:St) (T:Nat->St) (md:Nat->MD) (D:LI) (M:LT) (ρ:zh) (a:Act) (w:World):Prop where
 size:a.tmps.size=σ0.nt
 defers:a.defers=E.ds
 down:Down all D
 mem:zL E.Keep M ρ w
 regs:∀t j sv,j<=all.length->(∀i o,all[i]?=some o->o.dst=some t->(D i↔i<j))->kK (T j).L t=some sv->
  t<σ0.nt/\G (λb=>E.Keep b∨Own M ρ b) (Own M ρ) ρ w sv (a.tmps.getD t undef)
 keys:∀k j m,j<=all.length->(∀i,i<all.length->qW T md i k->(D i↔i<j))->zU (T j).M k=some m->zU M k=some m
 names:∀k v,ρ k=some v->k<σ0.nk∨∃i,D i/\i<all.length/\(T i).nk<=k/\k<zbH (T i).nk (md i)
 stp:Stp E.W0 (Own M ρ) E.ρ0 ρ E.w0 w
variable{M:LT}{k':Nat}{m:Mem}
def qh{k:Nat}:zU ((k,m)::M) k'=if k=k' then some m else zU M k':=by
 simp only[zU]
 by_cases h:k=k'
 ·subst h;simp[K8]
 have:Nat.beq k k'=false:=by
  cases hb:Nat.beq k k' with
  |false=>rfl
  |true=>exact absurd (Xj hb) h
 simp[this,h]
def zjO{k:Nat}:zU (qK M k m) k'=if k=k' then(zU M k).map (λ_=>m) else zU M k':=by
 induction M with
 |nil=>simp[qK,zU]
 |cons x r ih=>
  obtain⟨q,y⟩:=x;simp only[qK]
  split
  ·rename_i hb;have:=Xj hb;subst this;rw[qh,qh,qh]
   by_cases e:q=k' <;> simp[e]
  rename_i hb;have hne:=KF hb;rw[qh,ih,qh,qh]
  by_cases e:k=k'
  ·subst e;simp[hne]
  simp[e]
def zdv{k:Nat}(h:k≠k'):zU (qg M k) k'=zU M k':=by
 induction M with
 |nil=>rfl
 |cons x r ih=>
  obtain⟨q,y⟩:=x;simp only[qg]
  split
  ·rename_i hb;have:=Xj hb;subst this;rw[qh,Xc h]
  rw[qh,qh,ih]
def zas{k:Nat}(hp:M.Pairwise λa b=>a.1≠b.1):zU (qg M k) k=none:=by
 cases h:zU (qg M k) k with
 |none=>rfl
 |some m=>exact absurd rfl (v9 hp _ (zA h))
end
section lex
variable{P:Program}{all:List Oper}{E:Env}{σ0:St}{T:Nat->St}{s:Nat->SV}{md:Nat->MD}{run:Nat->Bool}{svs:Nat->LR}{U:Nat->LI}
section
variable{j:Nat}
def Lex.nk_next(h:Lex P all E σ0 T s md run svs U)(hj:j<all.length):(T (j+1)).nk=zbH (T j).nk (md j):=by
 have:=(h.next j _ (Xb hj)).2.1;exact this
def ztn(κ:Nat)(m:MD):κ<=zbH κ m:=by cases m <;> simp[zbH]
def Lex.nk_mono(h:Lex P all E σ0 T s md run svs U){i:Nat}:∀{j:Nat},i<=j->j<=all.length->(T i).nk<=(T j).nk
 |0,hij,_=>by
   have:i=0:=oM;subst this;exact Xk _
 |j+1,hij,hj=>by
  by_cases e:i=j+1
  ·subst e;exact Xk _
  have:=h.nk_mono (i:=i) (j:=j) oM oM;rw[h.nk_next oM];exact XB this (ztn _ _)
variable{i:Nat}
def Lex.nk_push(h:Lex P all E σ0 T s md run svs U)(hij:i<j)(hj:j<=all.length):zbH (T i).nk (md i)<=(T j).nk:=by
 have h1:=h.nk_mono (i:=i+1) (j:=j) oM hj
 rwa [h.nk_next oM]at h1
def zwY{σ:St}{d:Option Tmp}{sv:SV}{m:MD}{t:Nat}(hd:d≠some t):kK (σ.app d sv m).L t=kK σ.L t:=by
 cases d with
 |none=>rfl
 |some d=>
  show kK ((d,sv)::σ.L) t=_;rw[kq,Xc (λe=>hd (by rw[e]))]
def Lex.look_chain(h:Lex P all E σ0 T s md run svs U){t j0:Nat}:∀{j:Nat} {s':SV},j0<=j->j<=all.length->(∀i o,j0<=i->i<j->all[i]?=some o->o.dst≠some t)->kK (T j).L t=some s'->
  ∃s0,kK (T j0).L t=some s0/\∀S Pm ρ w v,G S Pm ρ w s0 v->G S Pm ρ w s' v
 |0,s',h0,_,_,hl=>by
  have:j0=0:=oM;subst this;exact⟨s',hl,λ_ _ _ _ _ h=>h⟩
 |j+1,s',h0,hj,hw,hl=>by
  by_cases e:j0=j+1
  ·subst e;exact⟨s',hl,λ_ _ _ _ _ h=>h⟩
  have hlt:j<all.length:=by omega
  have ho:=Xb hlt;obtain⟨s1,hl1,hi1⟩:=(h.next j _ ho).2.2.2.2 t s' hl;rw[zwY (hw j _ oM oM ho)]at hl1;obtain⟨s0,hl0,hi0⟩:=h.look_chain (j:=j) oM oM (λi o h1 h2=>hw i o h1 oM) hl1;exact⟨s0,hl0,λS Pm ρ w v hg=>hi1 _ _ _ _ _ (hi0 _ _ _ _ _ hg)⟩
variable{A:LT}
def zge{B:LT}{k:Nat}:zU (A++B) k=(match zU A k with|some m=>some m|none=>zU B k):=by
 induction A with
 |nil=>rfl
 |cons x r ih=>
  obtain⟨q,y⟩:=x;rw[Jq,qh,qh]
  by_cases h:q=k
  ·simp[h]
  simp only[h,if_false];exact ih
def zbN{k:Nat}:∀{ks:LC} {M:LT},k∉ks->zU (uM M ks) k=zU M k
 |[],_,_=>rfl
 |q::r,M,h=>by
  simp only[uM];rw[zbN (λe=>h (.tail _ e)),zdv (λe=>h (by rw[e];exact .head _))]
def zlI{k:Nat}(h:∀m,(k,m)∉A):zU A k=none:=by
 cases hl:zU A k with
 |none=>rfl
 |some m=>exact absurd (zA hl) (h m)
variable{m:Mem}
def zlJ{k:Nat}(h:(k,m)∈A):∃m',zU A k=some m':=by
 induction A with
 |nil=>cases h
 |cons x r ih=>
  obtain⟨q,y⟩:=x;rw[qh]
  by_cases e:q=k
  ·exact⟨y,Xe e⟩
  rw[Xc e]
  cases h with
  |head=>exact absurd rfl e
  |tail _ h=>exact ih h
def za8{k:Nat}:∀{ks:LC} {M:LT},M.Pairwise (λa b=>a.1≠b.1)->k∈ks->zU (uM M ks) k=none
 |[],_,_,h=>(by cases h)
 |q::r,M,hp,h=>by
  simp only[uM]
  by_cases hr:k∈r
  ·exact za8 (jg hp) hr
  rw[zbN hr]
  cases h with
  |head=>exact zas hp
  |tail _ h=>exact absurd h hr
variable{M:LT}
def zmb{k:Nat}(hgv:zcA (T j).nk (md j))(hn:¬qW T md j k):zU (zc6 M (T j).nk (md j)) k=zU M k:=by
 unfold qW at hn
 cases hm:md j <;> simp only[hm]at hn <;> simp only[zc6]
 ·rw[qh,Xc (λe=>hn e.symm)]
 ·rw[zjO,Xc (λe=>hn e.symm)]
 ·exact zdv (λe=>hn e.symm)
 ·rw[qh,Xc (λe=>hn (.inr e.symm))];exact zdv (λe=>hn (.inl e.symm))
 rename_i ks new nn;unfold zcA at hgv;simp only[hm]at hgv;rw[zge,zlI (λm hmem=>hn (hgv.1 k m hmem)),zbN (λh=>hn (.inl h))]
def Lex.lookM_chain(h:Lex P all E σ0 T s md run svs U){k j0:Nat}:∀{j:Nat},j0<=j->j<=all.length->(∀i,j0<=i->i<j->¬qW T md i k)->zU (T j).M k=zU (T j0).M k
 |0,h0,_,_=>by
  have:j0=0:=oM;subst this;rfl
 |j+1,h0,hj,hw=>by
  by_cases e:j0=j+1
  ·subst e;rfl
  have hlt:j<all.length:=by omega
  have ho:=Xb hlt;have hM:=(h.next j _ ho).1;rw[hM];show zU (zc6 (T j).M (T j).nk (md j)) k=_;rw[zmb (h.nodrop j _ ho) (hw j oM oM)];exact h.lookM_chain oM oM λi h1 h2=>hw i h1 oM
def zu0{k:Nat}(hp:M.Pairwise λa b=>a.1≠b.1)(h:(k,m)∈M):zU M k=some m:=by
 induction M with
 |nil=>cases h
 |cons x r ih=>
  obtain⟨q,y⟩:=x;rw[X9]at hp;rw[qh]
  cases h with
  |head=>simp
  |tail _ h=>
   have:q≠k:=hp.1 _ h;rw[Xc this];exact ih hp.2 h
variable{ρ:zh}{a:Act}
def Inv.after(hlex:Lex P all E σ0 T s md run svs U){D:LI}{w w':World}{v:Value}(hI:Inv all E σ0 T md D M ρ a w)
{o:Oper} (ho:all[j]?=some o) (hj:¬D j) (hedges:∀e∈o.after,Region.binds .any e=true->D e.on) (ha:k8 E.Keep M ρ w (T j).nk (s j) (md j) v w'):
  ∃M' ρ',Inv all E σ0 T md (λi=>i=j∨D i) M' ρ' (a.put o.dst v) w':=by
 obtain⟨ρ',hs,hm,hg,hρ⟩:=ha;have hjl:j<all.length:=(Xd.1 ho).1;have hbefore:∀i,Anc all j i->D i:=λi hA=>hA D hI.down (λo' ho'=>by rw[ho]at ho';cases ho';exact hedges)
 have hafter:∀i,Anc all i j->¬D i:=λi hA hDi=>hj (hA D hI.down (λoi hi=>hI.down i oi hDi hi))
 have hdef:(a.put o.dst v).defers=E.ds:=by cases hd:o.dst <;> exact hI.defers
 refine⟨zc6 M (T j).nk (md j),ρ',?_,hdef,?_,hm,?_,?_,?_,hI.stp.trans hs⟩
 ·have:=hI.size
  cases hd:o.dst <;> simpa[Act.put] using this
 ·intro i oi hi hoi e he hb
  rcases hi with rfl|hi
  ·rw[ho]at hoi;cases hoi;exact .inr (hedges e he hb)
  exact .inr (hI.down i oi hi hoi e he hb)
 ·intro t j' sv hj' hag hl
  have hold:o.dst≠some t->(∀i oi,all[i]?=some oi->oi.dst=some t->(D i↔i<j')):=λhd i oi hi hdi=>by
   have h1:=hag i oi hi hdi;constructor
   ·intro h;exact h1.1 (.inr h)
   intro h
   rcases h1.2 h with rfl|h
   ·rw[ho]at hi;cases hi;exact absurd hdi hd
   exact h
  by_cases hd:o.dst=some t
  ·have hlt:j<j':=(hag j o ho hd).1 (.inl rfl)
   have hno:∀i oi,j+1<=i->i<j'->all[i]?=some oi->oi.dst≠some t:=λi oi h1 h2 hi hdi=>by
    have hDi:=((hag i oi hi hdi).2 h2).resolve_left oM;refine hafter i (hlex.slot j i o oi oM ho hi ?_) hDi;unfold zju;have:zdj (ux o) (ux oi)=true:=zjL (t:=t) (by simp[ux,hd]) (by simp[ux,hdi]);simp[this]
   obtain⟨s1,hl1,hi1⟩:=hlex.look_chain (j0:=j+1) oM hj' hno hl;obtain⟨s2,hl2,hi2⟩:=(hlex.next j o ho).2.2.2.2 t s1 hl1;have hl2:kK (putL (T j).L o.dst (s j)) t=some s2:=hl2;rw[hd]at hl2;have hl2:kK ((t,s j)::(T j).L) t=some s2:=hl2;rw[kq,Xe rfl]at hl2
   cases hl2
   have htl:=hlex.dst j o ho t hd;refine⟨htl,?_⟩;rw[hd,zgc (by rw[hI.size];exact htl),Xe rfl];exact hi1 _ _ _ _ _ (hi2 _ _ _ _ _ hg)
  obtain⟨htl,hg'⟩:=hI.regs t j' sv hj' (hold hd) hl;refine⟨htl,?_⟩
  have hput:(a.put o.dst v).tmps.getD t undef=a.tmps.getD t undef:=by
   cases hdd:o.dst with
   |none=>rfl
   |some d=>
    have hdl:=hlex.dst j o ho d hdd;rw[zgc (by rw[hI.size];exact hdl),Xc (λe=>hd (by rw[hdd,e]))]
  rw[hput];exact hg'.stp hs
 ·intro k j' m hj' hag hl
  by_cases ht:qW T md j k
  ·have hlt:j<j':=(hag j hjl ht).1 (.inl rfl)
   have hno:∀i,j+1<=i->i<j'->¬qW T md i k:=λi h1 h2 hti=>by
    have hil:i<all.length:=oM;have hDi:=((hag i hil hti).2 h2).resolve_left oM;exact hafter i (hlex.mem j i oM hil k (.inl ⟨ht,.inr hti⟩)) hDi
   rw[hlex.lookM_chain (j0:=j+1) oM hj' hno,(hlex.next j o ho).1]at hl;have hl:zU (zc6 (T j).M (T j).nk (md j)) k=some m:=hl
   have hagj:∀m,zU (T j).M k=some m->zU M k=some m:=λm hlk=>by
    refine hI.keys k j m oM (λi hil hti=>?_) hlk;constructor
    ·intro hDi
     rcases QB i j with h|h|h
     ·exact h
     ·subst h;exact absurd hDi hj
     exact absurd hDi (hafter i (hlex.mem j i h hil k (.inl ⟨ht,.inr hti⟩)))
    intro hij;exact hbefore i (hlex.mem i j hij hjl k (.inl ⟨hti,.inr ht⟩))
   unfold qW at ht
   cases hmd:md j with
   |none=>simp only[hmd]at ht
   |push m'=>
    simp only[hmd]at ht hl ⊢;simp only[zc6]at hl ⊢;rw[qh,Xe ht.symm]at hl ⊢;exact hl
   |set k' m'=>
    simp only[hmd]at ht hl ⊢;subst ht;simp only[zc6]at hl ⊢;rw[zjO,Xe rfl]at hl ⊢
    cases hq:zU (T j).M k with
    |none=>rw[hq]at hl;cases hl
    |some m0=>
     rw[hq]at hl;rw[hagj m0 hq];exact hl
   |drop k'=>
    simp only[hmd]at ht hl;subst ht;simp only[zc6]at hl;rw[zas (hlex.pw j oM)]at hl
    cases hl
   |repl k' m'=>
    simp only[hmd]at ht hl ⊢;simp only[zc6]at hl ⊢;rw[qh]at hl ⊢
    by_cases e:(T j).nk=k
    ·rw[Xe e]at hl ⊢;exact hl
    rw[Xc e]at hl ⊢;have hkk:=ht.resolve_right (λh=>e h.symm);subst hkk;rw[zas (hlex.pw j oM)]at hl
    cases hl
   |give ks new nn=>
    have hgv:=hlex.nodrop j o ho;unfold zcA at hgv;simp only[hmd]at ht hl hgv ⊢;simp only[zc6]at hl ⊢;rw[zge]at hl ⊢
    cases hq:zU new k with
    |some m0=>rw[hq]at hl;exact hl
    |none=>
     exfalso
     rw[hq]at hl
     rcases ht with ht|⟨h1,h2⟩
     ·have hl:zU (uM (T j).M ks) k=some m:=hl;rw[za8 (hlex.pw j oM) ht]at hl
      cases hl
     obtain⟨m1,hm1⟩:=hgv.2 k h1 h2;obtain⟨m2,hm2⟩:=zlJ hm1;rw[hq]at hm2;cases hm2
  rw[zmb (hlex.nodrop j o ho) ht];refine hI.keys k j' m hj' (λi hil hti=>?_) hl;have h1:=hag i hil hti;constructor
  ·intro h;exact h1.1 (.inr h)
  intro h
  rcases h1.2 h with rfl|h
  ·exact absurd hti ht
  exact h
 intro k v' hv'
 by_cases hk:k<(T j).nk∨zbH (T j).nk (md j)<=k
 ·rw[hρ k hk]at hv'
  rcases hI.names k v' hv' with h|⟨i,h1,h2,h3,h4⟩
  ·exact .inl h
  exact .inr ⟨i,.inr h1,h2,h3,h4⟩
 exact .inr ⟨j,.inl rfl,hjl,oM,oM⟩
def Lex.nt(h:Lex P all E σ0 T s md run svs U):∀{j:Nat},j<=all.length->(T j).nt=σ0.nt/\(T j).n0=σ0.n0
 |0,_=>⟨h.start.2.2.1,h.start.2.2.2.1⟩
 |j+1,hj=>by
  have ho:=Xb (show j<all.length by omega);obtain⟨_,_,h1,h2,_⟩:=h.next j _ ho
  obtain⟨h3,h4⟩:=h.nt (j:=j) oM;exact⟨h1.trans h3,h2.trans h4⟩
def Inv.sees(hlex:Lex P all E σ0 T s md run svs U){D:LI}{w:World}(hI:Inv all E σ0 T md D M ρ a w)
{o:Oper} (ho:all[j]?=some o) (hj:¬D j) (hedges:∀e∈o.after,Region.binds .any e=true->D e.on):
  (∀t,t∈zct all o->∀sv,kK (T j).L t=some sv->t<σ0.nt/\G (λb=>E.Keep b∨Own M ρ b) (Own M ρ) ρ w sv (a.tmps.getD t undef))/\
  (∀k m,U j k->zU (T j).M k=some m->zU M k=some m)/\(∀k,(T j).nk<=k->k<zbH (T j).nk (md j)->ρ k=none):=by
 have hjl:j<all.length:=(Xd.1 ho).1;have hbefore:∀i,Anc all j i->D i:=λi hA=>hA D hI.down (λo' ho'=>by rw[ho]at ho';cases ho';exact hedges)
 have hafter:∀i,Anc all i j->¬D i:=λi hA hDi=>hj (hA D hI.down (λoi hi=>hI.down i oi hDi hi))
 refine⟨λt ht sv hl=>hI.regs t j sv oM (λi oi hi hd=>?_) hl,λk m hu hlk=>?_,λq hp1 hp2=>?_⟩
 ·constructor
  ·intro hDi
   rcases QB i j with h|h|h
   ·exact h
   ·subst h;exact absurd hDi hj
   refine absurd hDi (hafter i (hlex.slot j i o oi h ho hi ?_));have:zdj (zct all o) (ux oi)=true:=zjL ht (by simp[ux,hd]);unfold zju;simp[this]
  intro hij;refine hbefore i (hlex.slot i j oi o hij hi ho ?_);have:zdj (ux oi) (zct all o)=true:=zjL (t:=t) (by simp[ux,hd]) ht;unfold zju;simp[this]
 ·refine hI.keys k j m oM (λi hil hti=>?_) hlk;constructor
  ·intro hDi
   rcases QB i j with h|h|h
   ·exact h
   ·subst h;exact absurd hDi hj
   exact absurd hDi (hafter i (hlex.mem j i h hil k (.inr ⟨hu,hti⟩)))
  intro hij;exact hbefore i (hlex.mem i j hij hjl k (.inl ⟨hti,.inl hu⟩))
 cases hq:ρ q with
 |none=>rfl
 |some v=>
  exfalso
  rcases hI.names _ v hq with h|⟨i,h1,h2,h3,h4⟩
  ·have h5:=hlex.nk_mono (i:=0) (j:=j) oM oM;have h6:(T 0).nk=σ0.nk:=hlex.start.2.1;omega
  rcases QB i j with h|h|h
  ·have:=hlex.nk_push h oM;omega
  ·subst h;exact hj h1
  have:=hlex.nk_push h oM;omega
def Inv.step(hlex:Lex P all E σ0 T s md run svs U){D:LI}{M:LT}{ρ:zh}{a:Act}{w:World}(hI:Inv all E σ0 T md D M ρ a w){j:Nat}{o:Oper}(ho:all[j]?=some o)(hj:¬D j)(hedges:∀e∈o.after,Region.binds .any e=true->D e.on){Q:LF}{K:LG}(hK:∀M ρ a w,Inv all E σ0 T md (λi=>i=j∨D i) M ρ a w->K a w):wpOp P all.toArray Q j K a w:=by
 have hjl:j<all.length:=(Xd.1 ho).1;obtain⟨h1,h2,h3⟩:=hI.sees hlex ho hj hedges;have hnt:=(hlex.nt (j:=j) oM).1
 have hw:Region.wanted o (yielded all.toArray a.tmps)=run j:=
  zl9 (hlex.guard j o ho) (hI.size.trans hnt.symm) λt b ⟨g,want,hg,hd⟩ hl=>by
   obtain⟨h4,h5⟩:=h1 t (by simp[zct,hg,hd]) _ hl;exact⟨hnt ▸ h4,h5.val_inv⟩
 have ho':all.toArray[j]?=some o:=by simpa using ho
 unfold wpOp;simp only[ho',hw]
 obtain⟨hrun,hst⟩|⟨hrun,hs,hm⟩:=hlex.step j o ho
 ·simp only[hrun,if_true];have hev:=hst.ev (S:=λb=>E.Keep b∨Own M ρ b) (Pm:=Own M ρ) (ρ:=ρ) (a:=a) (w:=w) λt sv ht hl=>(h1 t (by simp[zct,ht]) sv hl).2
  have hdo:qJ P o a w (k8 E.Keep M ρ w (T j).nk (s j) (md j)):=by
   obtain⟨lm,hok,hlm⟩:=hst.ok;refine hok o rfl E.Keep M ρ a w (λk m hk=>h2 k m (hlm k m hk).1 (hlm k m hk).2) hI.mem h3 (λhp m hm=>?_) hev
   obtain⟨v,hv⟩:=(hI.mem.rel _ m hm).name;have hlt:(T j).nk<zbH (T j).nk (md j):=by cases hmd:md j <;> simp[hmd,zwS]at hp <;> simp[zbH]
   rw[h3 _ (Xk _) hlt]at hv;cases hv
  refine .inl (hdo.wp λv w' ha=>?_);obtain⟨M',ρ',h⟩:=hI.after hlex ho hj hedges ha;exact hK _ _ _ _ h
 simp only[hrun,Ky,if_false];have ha:k8 E.Keep M ρ w (T j).nk (s j) (md j) undef w:=by rw[hs,hm];exact uR hI.mem
 obtain⟨M',ρ',h⟩:=hI.after hlex ho hj hedges ha;exact hK _ _ _ _ h
def zek{ops:List Oper}{listed:Array Bool}:i∈Region.ready .any ops.toArray listed↔
  ∃o,ops[i]?=some o/\listed.getD i true=false/\∀e∈o.after,Region.binds .any e=true->listed.getD e.on false=true:=by
 unfold Region.ready;simp only[QL,Kd,KJ,XC,JQ];constructor
 ·rintro⟨h1,h2,h3⟩
  have ho:=Xb h1;refine⟨_,ho,h2,λe he hb=>?_⟩;rw[Yk,ho]at h3;simp only[Qb,Qq]at h3;have:=Jd.1 h3 e he
  simpa[hb] using this
 rintro⟨o,ho,h2,h3⟩
 refine⟨(Xd.1 ho).1,h2,?_⟩;rw[Yk,ho];simp only[Qb,Qq];refine Jd.2 λe he=>?_
 cases hb:Region.binds .any e with
 |false=>rfl
 |true=>simpa using h3 e he hb
def zu1(hlex:Lex P all E σ0 T s md run svs U){Q:LF}(hQ:∀D M ρ a w,(∀i,i<all.length->D i)->Inv all E σ0 T md D M ρ a w->Q .normal a w):∀(fuel:Nat) (listed:Array Bool) (M:LT) (ρ:zh) (a:Act) (w:World),
  listed.size=all.length->listed.toList.count false<=fuel->Inv all E σ0 T md (λi=>listed.getD i false=true) M ρ a w->wpAny P .any all.toArray Q fuel listed a w:=by
 have hlt:=hlex.edges
 have hdone:∀(listed:Array Bool),listed.size=all.length->Region.ready .any all.toArray listed=[]->∀i,i<all.length->listed.getD i false=true:=λlisted hsz hn i=>by
  induction i using Nat.strongRecOn with
  |_ i ih=>
   intro hi
   cases hb:listed.getD i false with
   |true=>rfl
   |false=>
    have ho:=Xb hi
    have:i∈Region.ready .any all.toArray listed:=zek.2 ⟨_,ho,by
     have hi':i<listed.size:=oM
     simp[Array.getD,hi']at hb ⊢;exact hb,λe he hbind=>by
      have:=hlt i _ ho e he hbind
      exact ih e.on this oM⟩
    rw[hn]at this;cases this
 intro fuel
 induction fuel with
 |zero=>
  intro listed M ρ a w hsz hc hI
  have hall:∀i,i<all.length->listed.getD i false=true:=λi hi=>by
   have hi':i<listed.size:=oM
   cases hb:listed.getD i false with
   |true=>rfl
   |false=>
    have:false∈listed.toList:=by
     simp[Array.getD,hi']at hb;rw[←hb];simp
    have:=Q8.2 this;omega
  refine⟨?_,hQ _ _ _ _ _ hall hI⟩
  cases hr:Region.ready .any all.toArray listed with
  |nil=>rfl
  |cons i r=>
   have hi:i∈Region.ready .any all.toArray listed:=by rw[hr];exact .head _
   obtain⟨o,ho,h2,_⟩:=zek.1 hi;have hil:=(Xd.1 ho).1;have h3:=hall i hil;have hi':i<listed.size:=oM;simp[Array.getD,hi']at h2 h3;rw[h2]at h3;cases h3
 |succ fuel ih=>
  intro listed M ρ a w hsz hc hI;refine⟨λhn=>hQ _ _ _ _ _ (hdone listed hsz hn) hI,λj hj=>?_⟩;obtain⟨o,ho,h2,h3⟩:=zek.1 hj;have hjl:=(Xd.1 ho).1;have hj':j<listed.size:=oM;have hjf:listed[j]=false:=by simpa[Array.getD,hj'] using h2
  refine hI.step hlex ho (by simp[Array.getD,hj',hjf]) h3 λM' ρ' a' w' hI'=>ih _ M' ρ' a' w' (by simpa using hsz) ?_ ?_
  ·have hmem:false∈listed.toList:=by rw[←hjf];simp
   have hpos:=Q8.2 hmem
   have:(listed.setIfInBounds j true).toList.count false=listed.toList.count false-1:=by
    rw[QR,List.count_set (by simpa using hj')];simp[hjf]
   omega
  have:(λi=>(listed.setIfInBounds j true).getD i false=true)=λi=>i=j∨listed.getD i false=true:=by
   funext i
   apply propext
   by_cases e:j=i
   ·subst e;simp[Array.getD,hj']
   simp only[X7,KM e];constructor
   ·exact .inr
   rintro(h|h)
   ·exact absurd h.symm e
   exact h
  rw[this];exact hI'
end
end lex
section
variable{P:Program}{E:Env}{Q:LF}{K:St->Prop}{ops:Array Oper}{σ:St}{ρ:zh}{a:Act}
def zmc{w:World}(hr:Rel E σ ρ a w)(hlex0:∀w,Rel E σ ρ a w->∃T s md run svs U,Lex P ops.toList E σ T s md run svs U/\K (T ops.toList.length))(hQ:∀σ ρ a w,K σ->Rel E σ ρ a w->Q .normal a w):wpAny P .any ops Q ops.size (Array.replicate ops.size false) a { w with drawn:=w.drawn+1 }:=by
 have hd:Stp (Own σ.M ρ) (Own σ.M ρ) ρ ρ w { w with drawn:=w.drawn+1 }:=⟨rfl,rfl,⟨rfl,λ_=>rfl⟩,Xk _,λ_ _ _=>rfl,λ_ h=>.inl h,λ_ _ h=>h⟩
 have hr1:Rel E σ ρ a { w with drawn:=w.drawn+1 }:=
  ⟨hr.size,hr.defers,λt s hl=>⟨(hr.regs t s hl).1,(hr.regs t s hl).2.stp hd⟩,⟨λk m h=>(hr.mem.rel k m h).keep hd rfl (λ_ _ _ _=>rfl),hr.mem.keys,hr.mem.apart,hr.mem.old,hr.mem.kp,hr.mem.glS hd⟩,hr.fresh,hr.stp.trans hd,hr.keep,hr.low⟩
 obtain⟨T,s,md,run,svs,U,hlex,hK⟩:=hlex0 _ hr1;have hsz:ops.size=ops.toList.length:=by simp
 have main:=zu1 (Q:=Q) hlex (λD M ρ' a' w' hD hI=>by
  have hn:=hlex.nt (j:=ops.toList.length) (Xk _)
  have hin:∀x∈(T ops.toList.length).M,x∈M:=λx hx=>by
   obtain⟨k,m⟩:=x;exact zA (hI.keys k _ m (Xk _) (λi hi _=>⟨λ_=>hi,λ_=>hD i hi⟩) (zu0 (hlex.pw _ (Xk _)) hx))
  obtain⟨hs,hmo⟩:=hI.mem.let_go (M1:=(T ops.toList.length).M) hin (hlex.pw _ (Xk _))
  ·refine hQ (T ops.toList.length) ρ' a' w' hK ⟨hI.size.trans hn.1.symm,hI.defers,λt sv hl=>?_,hmo,λk hk=>?_,hI.stp.trans hs,hr.keep,λk v hv=>hn.2 ▸ hr.low k v hv⟩
   ·obtain⟨h1,h2⟩:=hI.regs t ops.toList.length sv (Xk _) (λi o hi _=>⟨λ_=>(Xd.1 hi).1,λh=>hD i h⟩) hl;exact⟨hn.1.symm ▸ h1,h2.stp hs⟩
   cases hq:ρ' k with
   |none=>rfl
   |some v=>
    exfalso
    rcases hI.names k v hq with h|⟨i,_,h2,h3,h4⟩
    ·have h5:=hlex.nk_mono (i:=0) (j:=ops.toList.length) oM (Xk _);have h6:(T 0).nk=σ.nk:=hlex.start.2.1;omega
    have:=hlex.nk_push h2 (Xk _);omega)
  ops.size (Array.replicate ops.size false) σ.M ρ a { w with drawn:=w.drawn+1 } sI sI
  ⟨hr1.size,hr1.defers,λi o hi=>by simp[Array.getD]at hi,hr1.mem,λt j sv hj hag hl=>?_,λk j m hj hag hl=>?_,λk v hv=>.inl ?_,hr1.stp⟩
 ·simpa using main
 ·have hno:∀i o,0<=i->i<j->ops.toList[i]?=some o->o.dst≠some t:=λi o _ h2 hi hd=>by
   have:=(hag i o hi hd).2 h2;simp[Array.getD]at this
  obtain⟨s1,hl1,hi1⟩:=hlex.look_chain (j0:=0) (Xh _) hj hno hl;obtain⟨s2,hl2,hi2⟩:=hlex.start.2.2.2.2 t s1 hl1;exact⟨(hr1.regs t s2 hl2).1,hi1 _ _ _ _ _ (hi2 _ _ _ _ _ (hr1.regs t s2 hl2).2)⟩
 ·have hno:∀i,0<=i->i<j->¬qW T md i k:=λi _ h2 ht=>by
   have:=(hag i oM ht).2 h2;simp[Array.getD]at this
  rw[hlex.lookM_chain (j0:=0) (Xh _) hj hno,hlex.start.1]at hl;exact hl
 by_cases hk:k<σ.nk
 ·exact hk
 rw[hr1.fresh k oM]at hv;cases hv
variable{all:List Oper}{md:Nat->MD}
def Lex0.lex{σ0:St}{T:Nat->St}{s:Nat->SV}{run:Nat->Bool}{svs:Nat->LR}(h:Lex0 P all E σ0 0 T s md run svs)(hord:vi all=true):
  Lex P all E σ0 T s md run svs (λj k=>(∃o,all[j]?=some o/\zc1 o.op=true)/\k<(T j).nk):=by
 obtain⟨hedges,hconf⟩:=zrX hord
 have mdok:∀j o,all[j]?=some o->MdOK all j (T j).nk o.op (md j):=λj o ho=>by
  rcases h.step j o (Xh _) ho with⟨_,hs⟩|⟨_,_,hm⟩
  ·exact hs.md rfl
  exact .inr (.inl hm)
 have nk_next:∀j,j<all.length->(T (j+1)).nk=zbH (T j).nk (md j):=λj hj=>(h.next j _ (Xh _) (Xb hj)).2.1
 have nk_mono:∀i j,i<=j->j<=all.length->(T i).nk<=(T j).nk:=by
  intro i j
  induction j with
  |zero=>
    intro hij _;have:i=0:=oM;subst this;exact Xk _
  |succ j ih=>
   intro hij hj
   by_cases e:i=j+1
   ·subst e;exact Xk _
   have:=ih oM oM;rw[nk_next j oM];exact XB this (ztn _ _)
 have nk_lt:∀i j k,i<j->j<=all.length->qW T md i k->k<(T j).nk:=λi j k hij hj ht=>by
  have h1:=nk_mono (i+1) j oM hj;rw[nk_next i oM]at h1;have ho:=Xb (show i<all.length by omega);unfold qW at ht
  obtain⟨_,⟨hd,hgv⟩,hk⟩|hm|⟨⟨m',hm⟩,_⟩:=mdok i _ ho
  ·cases hmd:md i <;> simp only[hmd]at ht h1 <;> simp only[zbH]at h1
   ·omega
   ·have:=hk _ _ (.inl hmd);omega
   ·exact absurd hmd (hd _)
   ·have:=hk _ _ (.inr hmd);omega
   rw[hmd]at hgv;cases hgv
  ·rw[hm]at ht;exact ht.elim
  rw[hm]at ht h1;simp only[zbH]at h1;have ht:k=(T i).nk:=ht;omega
 have wu:∀op:Op,isW op=true->zc1 op=true/\zdh op=true:=λop hW=>by
  cases op <;> first|exact⟨rfl,rfl⟩|(simp[isW,zwO]at hW;done)|exact⟨rfl,by simpa[isW,zdh] using hW⟩
 have fwd:∀i j oi oj k,i<j->all[i]?=some oi->all[j]?=some oj->qW T md i k->zc1 oj.op=true->Anc all j i:=λi j oi oj k hij hi hj ht hu=>by
  obtain⟨hW,_⟩|hm|⟨⟨m',hm⟩,hmt⟩:=mdok i oi hi
  ·exact hconf i j oi oj hij hi hj (by unfold zuP;simp[(wu _ hW).2,hu])
  ·unfold qW at ht;rw[hm]at ht;exact ht.elim
  rcases hmt with hmt|hmt
  ·exact hconf i j oi oj hij hi hj (by unfold zuP;simp[hmt,hu])
  exact zuZ hmt j oj hij hj hu
 refine⟨h.start,λj o ho=>h.next j o (Xh _) ho,λj o ho=>h.dst j o (Xh _) ho,λj o ho=>h.guard j o (Xh _) ho,λj o ho=>?_,λj hj=>h.pw j (Xh _) hj,λj o ho=>?_,hedges,
  λi j oi oj hij hi hj hc=>hconf i j oi oj hij hi hj ?_,λi j hij hjl k hk=>?_⟩
 ·rcases h.step j o (Xh _) ho with⟨hr,hs⟩|hs
  ·refine .inl ⟨hr,⟨_,hs.ok,λk m hk=>?_⟩,hs.ev⟩
   split at hk
   ·rename_i hu;exact⟨⟨⟨o,ho,hu⟩,(za6 hk).1⟩,(za6 hk).2⟩
   cases hk
  exact .inr hs
 ·obtain⟨_,⟨_,hgv⟩,_⟩|hm|⟨⟨m',hm⟩,_⟩:=mdok j o ho
  ·cases hmd:md j <;> first|trivial|(rw[hmd]at hgv;cases hgv)
  ·rw[hm];trivial
  rw[hm];trivial
 ·unfold zju at hc;unfold zuP;simp only[JB]at hc ⊢
  rcases hc with(hc|hc)|hc
  ·exact .inl (.inl (.inr hc))
  ·exact .inl (.inr hc)
  exact .inr hc
 have hi:=Xb (show i<all.length by omega);have hj:=Xb hjl
 have back:qW T md j k->k<(T j).nk->zc1 (all[j]).op=true/\isW (all[j]).op=true:=λht hk=>by
  obtain⟨hW,_⟩|hm|⟨⟨m',hm⟩,_⟩:=mdok j _ hj
  ·exact⟨(wu _ hW).1,hW⟩
  ·unfold qW at ht;rw[hm]at ht;exact ht.elim
  unfold qW at ht;rw[hm]at ht;have ht:k=(T j).nk:=ht;omega
 obtain⟨ht,hu|ht2⟩|⟨⟨⟨oi,hoi,hu⟩,hkl⟩,ht2⟩:=hk
 ·obtain⟨⟨oj,hoj,hu⟩,_⟩:=hu;exact fwd i j _ oj k hij hi hoj ht hu
 ·exact fwd i j _ _ k hij hi hj ht (back ht2 (nk_lt i j k hij oM ht)).1
 have hW:=(back ht2 (Xw hkl (nk_mono i j oM oM))).2;exact hconf i j oi _ hij hoi hj (by unfold zuP;simp[hu,hW])
def zdw{P:Program}{Γ:LS}(hT:TOK P Γ){E:Env}{Q:LF}{K:St->Prop}{ops:Array Oper}{σ:St}{ρ:zh}{a:Act}{w:World}(hr:Rel E σ ρ a w)(hord:vi ops.toList=true)(h:u4 P Γ true ops.toList ops.toList 0 σ K)(hQ:∀σ ρ a w,K σ->Rel E σ ρ a w->Q .normal a w):wpAny P .any ops Q ops.size (Array.replicate ops.size false) a { w with drawn:=w.drawn+1 }:=
 zmc hr (λw hr=>by
  obtain⟨T,s,md,run,svs,hlex,hK⟩:=zjM hT ops.toList 0 σ ρ a w sI (λj=>by simp) hr h
  exact⟨T,s,md,run,svs,_,hlex.lex hord,hK⟩) hQ
variable{Γ:LS}
def zrY(hT:TOK P Γ)(hm:P.follows .mixedOrders=true){id:Nat}{w:World}(hr:Rel E σ ρ a w)(hord:vi ops.toList=true)(h:u4 P Γ true ops.toList ops.toList 0 σ K)(hQ:∀σ ρ a w,K σ->Rel E σ ρ a w->Q .normal a w):(Code.region id ops true).wp P Q a w:=
 wp_region_any hm (zdw hT hr hord h hQ)
def zu2(h:zfr all=true):(∀(j:Nat) (o:Oper),all[j]?=some o->∀e∈o.after,Region.binds .any e=true->e.on<j)/\
  ∀(i j:Nat) (oi oj:Oper),i<j->all[i]?=some oi->all[j]?=some oj->zju all oi oj=true->Anc all j i:=by
 unfold zfr at h;simp only[XC]at h;obtain⟨h1,h2⟩:=h;refine⟨λj o ho e he hb=>?_,λi j oi oj hij hi hj hc=>?_⟩
 ·have hjl:j<all.length:=(Xd.1 ho).1;have:=XQ.1 h1 j (Kd.2 hjl);simp only[ho]at this;have:=XQ.1 this e (by simpa using he);simp only[hb,QC,QN]at this;exact Xz this
 have hjl:j<all.length:=(Xd.1 hj).1;have:=XQ.1 h2 j (Kd.2 hjl);have:=XQ.1 this i (Kd.2 hij);simp only[hi,hj,hc,QC,Yu]at this;exact zdu all all.length j i hjl this
variable{i:Nat}
def zrZ{T:Nat->St}{k:Nat}(h:qW T md i k):zeR k (zhe (T i).nk (md i))=true:=by
 unfold qW at h;have one:∀x:Nat,k=x->∀l,zeR k (x::l)=true:=λx e l=>by subst e;simp[zeR,K8]
 have two:∀x l,zeR k l=true->zeR k (x::l)=true:=λx l e=>by simp only[zeR];split <;> simp_all
 cases hm:md i <;> simp only[hm]at h
 ·exact one _ h _
 ·exact one _ h _
 ·exact one _ h _
 ·rcases h with h|h
  ·exact one _ h _
  exact two _ _ (one _ h _)
 have mem:∀{l:LC},k∈l->zeR k l=true:=λ{l} hl=>by
  induction l with
  |nil=>cases hl
  |cons x r ih=>
   cases hl with
   |head=>exact one _ rfl _
   |tail _ h=>exact two _ _ (ih h)
 have rng:∀n:Nat,(T i).nk<=k->k<(T i).nk+n->k∈zrK (T i).nk n:=λn=>by
  induction n with
  |zero=>intro h1 h2;omega
  |succ n ih=>
   intro h1 h2
   by_cases e:k=(T i).nk+n
   ·subst e;exact .head _
   exact .tail _ (ih h1 oM)
 refine mem (Xs.2 ?_)
 rcases h with h|⟨h1,h2⟩
 ·exact .inl h
 exact .inr (rng _ h1 h2)
def zjP{e:Ent}{k:Nat}:∀{l:LC},zeR k l=true->(zdo e.u e.nk k=true∨zeR k e.t=true)->ztf e l=true
 |[],h,_=>by cases h
 |x::r,h,hc=>by
  simp only[zeR]at h;simp only[ztf]
  split at h
  ·rename_i hb;have:=Xj hb;subst this
   rcases hc with hc|hc
   ·simp[hc]
   simp only[hc];split <;> rfl
  have:=zjP h hc;simp only[this]
  split
  ·rfl
  split <;> rfl
def zpu{x:Ent}{k:Nat}:∀{l:LC},zeR k l=true->zdo x.u x.nk k=true->ztg x l=true
 |[],h,_=>by cases h
 |y::r,h,hc=>by
  simp only[zeR]at h;simp only[ztg]
  split at h
  ·rename_i hb;have:=Xj hb;subst this;simp[hc]
  have:=zpu h hc;simp only[this]
  split <;> rfl
def zpv{m:Nat}{e:Ent}:∀{r:List Ent},prOK m e r=true->∀(i:Nat) (x:Ent),i<r.length->r[r.length-1-i]?=some x->zo5 x e=true->m.testBit i=true
 |[],_,i,x,hi,_,_=>by simp at hi
 |y::r,h,i,x,hi,hx,hc=>by
  simp only[prOK,XC,JB,JQ]at h;simp only[Xn]at hi hx
  by_cases e1:i=r.length
  ·subst e1;simp at hx;subst hx
   rcases h.1 with h|h
   ·exact h
   rw[hc]at h;cases h
  have:r.length+1-1-i=(r.length-1-i)+1:=by omega
  rw[this,KL]at hx;exact zpv h.2 i x oM hx hc
def zjQ{ms:LC}:∀{A:List Ent},zjt ms A=true->∀(i j:Nat) (x e:Ent),i<j->j<A.length->A[A.length-1-i]?=some x->A[A.length-1-j]?=some e->zo5 x e=true->(ms.getD j 0).testBit i=true
 |[],_,i,j,x,e,_,hj,_,_,_=>by simp at hj
 |y::r,h,i,j,x,e,hij,hj,hx,he,hc=>by
  simp only[zjt,XC]at h;simp only[Xn]at hj hx he;have hi:r.length+1-1-i=(r.length-1-i)+1:=oM;rw[hi,KL]at hx
  by_cases e1:j=r.length
  ·subst e1;simp at he;subst he;exact zpv h.1 i x hij hx hc
  have:r.length+1-1-j=(r.length-1-j)+1:=by omega
  rw[this,KL]at he;exact zjQ h.2 i j x e hij oM hx he hc
def zmd{k:Nat}:∀{l:LC},zrD k l=true->k∈l
 |[],h=>(by cases h)
 |x::r,h=>by
  simp only[zrD]at h
  split at h
  ·rename_i hb;have:=Xj hb;subst this;exact .head _
  exact .tail _ (zmd h)
def zme{ks:LC}{κ nn:Nat}:∀{new:LT},newB ks κ nn new=true->∀k m,(k,m)∈new->k∈ks∨(κ<=k/\k<κ+nn)
 |[],_,k,m,h=>(by cases h)
 |(q,y)::r,hb,k,m,h=>by
  simp only[newB]at hb;obtain⟨h1,h2⟩:=kj hb
  cases h with
  |head=>
   simp only[JB,XC]at h1
   rcases h1 with h1|h1
   ·exact .inl (zmd h1)
   exact .inr ⟨Xz h1.1,by simpa using h1.2⟩
  |tail _ h=>exact zme h2 k m h
def zif{k:Nat}:∀{new:LT},znz k new=true->∃m,(k,m)∈new
 |[],h=>(by cases h)
 |(q,y)::r,h=>by
  simp only[znz]at h
  split at h
  ·rename_i hb;have:=Xj hb;subst this;exact⟨y,.head _⟩
  obtain⟨m,hm⟩:=zif h;exact⟨m,.tail _ hm⟩
def zig{new:LT}{κ:Nat}:∀{n:Nat},znA new κ n=true->∀k,κ<=k->k<κ+n->∃m,(k,m)∈new
 |0,_,k,h1,h2=>oM
 |n+1,h,k,h1,h2=>by
  simp only[znA]at h;obtain⟨g1,g2⟩:=kj h
  by_cases e:k=κ+n
  ·subst e;exact zif g1
  exact zig g2 k h1 oM
def zwZ{κ:Nat}{md:MD}{K:Prop}(h:mdD κ md K):K/\zcA κ md:=by
 unfold mdD at h
 split at h
 ·exact⟨(zj h).2,tV⟩
 ·exact⟨(zj h).2,tV⟩
 ·exact⟨(zj h).2,tV⟩
 ·obtain⟨h1,h2⟩:=zj h;obtain⟨g1,g2⟩:=kj h1;exact⟨h2,zme g1,zig g2⟩
 refine⟨h,?_⟩;rename_i hn
 cases md <;> first|trivial|exact absurd rfl (hn _ _ _)
def zpw{u:Option LC}{nk:Nat}{lm:LJ}{k:Nat}{m:Mem}(h:lmU u nk lm k=some m):zdo u nk k=true/\lm k=some m:=by
 unfold lmU at h
 split at h
 ·exact⟨‹_›,h⟩
 cases h
def zr0(hT:TOK P Γ){o:Oper}{K:Ent->St->Prop}{w:World}(hr:Rel E σ ρ a w)(h:zbv P Γ o σ K):∃svs s md,K ⟨zo4 o.op svs,σ.nk,zhe σ.nk md⟩ (σ.app o.dst s md)/\zjN P o σ svs s md (λk=>zdo (zo4 o.op svs) σ.nk k=true)/\(∀t,o.dst=some t->t<σ.nt)/\zcA σ.nk md:=by
 unfold zbv at h;replace h:=zfq h;obtain⟨svs,h,hev⟩:=zgb h;have hg:=hev (a:=a) (λt s _ hl=>(hr.regs t s hl).2);have hlm:∀k m,lmU (zo4 o.op svs) σ.nk (zdg σ.M σ.nk) k=some m->zU σ.M k=some m:=λk m h=>(za6 (zpw h).2).2
 obtain⟨s,md,hK,hok⟩:=zhp hT ⟨E.Keep,σ.M,ρ,w,_,hlm,hr.mem,hg⟩ h;obtain⟨hK,hmd⟩:=zwZ (zdl (zdk hK));obtain⟨hd,hK⟩:=qy hK;exact⟨svs,s,md,hK,⟨⟨_,hok,λk m hk=>⟨(zpw hk).1,hlm k m hk⟩⟩,hev⟩,hd,hmd⟩
def zjN.does{o:Oper}{svs:LR}{s:SV}{md:MD}{U:LI}(h:zjN P o σ svs s md U){w:World}(hr:Rel E σ ρ a w):qJ P o a w (k8 E.Keep σ.M ρ w σ.nk s md):=by
 obtain⟨lm,hok,hlm⟩:=h.ok;exact hok o rfl E.Keep σ.M ρ a w (λk m hk=>(hlm k m hk).2) hr.mem (λk hk _=>hr.fresh k hk) (λ_=>hr.noKey) (h.ev λt s _ hl=>(hr.regs t s hl).2)
def zu3(hT:TOK P Γ){o:Oper}{r:List Oper}{acc:List Ent}{w:World}(hr:Rel E σ ρ a w)(h:za2 P Γ all (o::r) i acc σ K):∃σ' run svs s md e,za2 P Γ all r (i+1) (e::acc) (σ'.app o.dst s md) K/\qV all σ' o run/\
   (σ'=σ∨∃t s0 s1,kK σ.L t=some s0/\(∀S Pm ρ w v,G S Pm ρ w s0 v->G S Pm ρ w s1 v)/\σ'=σ.put (some t) s1)/\(∀t,o.dst=some t->t<σ.nt)/\
   ((run=true/\zjN P o σ' svs s md (λk=>zdo e.u e.nk k=true)/\e.t=zhe σ'.nk md)∨(run=false/\s=.val undef/\md=.none))/\zcA σ'.nk md:=by
 have run1:∀{σ':St},Rel E σ' ρ a w->zbv P Γ o σ' (λe σ=>za2 P Γ all r (i+1) (e::acc) σ K)->σ'.nt=σ.nt->∃svs s md e,za2 P Γ all r (i+1) (e::acc) (σ'.app o.dst s md) K/\(∀t,o.dst=some t->t<σ.nt)/\
   (zjN P o σ' svs s md (λk=>zdo e.u e.nk k=true)/\e.t=zhe σ'.nk md)/\zcA σ'.nk md:=by
  intro σ' hr' h' hn;obtain⟨svs,s,md,h1,h2,h3,h4⟩:=zr0 hT hr' h';exact⟨svs,s,md,_,h1,λt e=>hn ▸ h3 t e,⟨h2,rfl⟩,h4⟩
 simp only[za2]at h
 split at h
 ·rename_i hg;obtain⟨svs,s,md,e,h1,h2,h3,h4⟩:=run1 hr h rfl;exact⟨σ,true,svs,s,md,e,h1,by simp[qV,hg],.inl rfl,h2,.inl ⟨rfl,h3⟩,h4⟩
 rename_i j want hg
 split at h
 ·exact h.elim
 rename_i t ht
 have gv:∀{σ':St} {v:Value},kK σ'.L t=some (.val v)->qV all σ' o (ztm v want):=λhl=>by
  unfold qV;rw[hg];exact⟨t,_,ht,hl,rfl⟩
 have gi:∀{σ':St} {b:Bool},kK σ'.L t=some (.val (.bool b))->qV all σ' o (b==want):=λhl=>gv hl
 have put_look:∀(s1:SV),kK (σ.put (some t) s1).L t=some s1:=λs1=>by
  show kK ((t,s1)::σ.L) t=some s1;rw[kq];simp
 split at h
 ·rename_i hl
  split at h
  ·obtain⟨svs,s,md,e,h1,h2,h3,h4⟩:=run1 hr h rfl;exact⟨σ,_,svs,s,md,e,h1,gi hl,.inl rfl,h2,.inl ⟨rfl,h3⟩,h4⟩
  obtain⟨hd,h⟩:=qy h;exact⟨σ,_,[],_,_,_,h,gi hl,.inl rfl,hd,.inr ⟨rfl,rfl,rfl⟩,tV⟩
 ·rename_i hl
  split at h
  ·obtain⟨svs,s,md,e,h1,h2,h3,h4⟩:=run1 hr h rfl;exact⟨σ,_,svs,s,md,e,h1,gi hl,.inl rfl,h2,.inl ⟨rfl,h3⟩,h4⟩
  obtain⟨hd,h⟩:=qy h;exact⟨σ,_,[],_,_,_,h,gi hl,.inl rfl,hd,.inr ⟨rfl,rfl,rfl⟩,tV⟩
 ·rename_i p ip hl
  by_cases hp:p
  ·have hr':=hr.refine hl (zcz hp)
   split at h
   ·obtain⟨svs,s,md,e,h1,h2,h3,h4⟩:=run1 hr' (h.yes hp) rfl;exact⟨_,_,svs,s,md,e,h1,gi (put_look _),.inr ⟨t,_,_,hl,zcz hp,rfl⟩,h2,.inl ⟨rfl,h3⟩,h4⟩
   obtain⟨hd,h⟩:=qy (h.yes hp);exact⟨_,_,[],_,_,_,h,gi (put_look _),.inr ⟨t,_,_,hl,zcz hp,rfl⟩,hd,.inr ⟨rfl,rfl,rfl⟩,tV⟩
  have hr':=hr.refine hl (za7 hp)
  split at h
  ·obtain⟨hd,h⟩:=qy (h.no hp);exact⟨_,_,[],_,_,_,h,gi (put_look _),.inr ⟨t,_,_,hl,za7 hp,rfl⟩,hd,.inr ⟨rfl,rfl,rfl⟩,tV⟩
  obtain⟨svs,s,md,e,h1,h2,h3,h4⟩:=run1 hr' (h.no hp) rfl;exact⟨_,_,svs,s,md,e,h1,gi (put_look _),.inr ⟨t,_,_,hl,za7 hp,rfl⟩,h2,.inl ⟨rfl,h3⟩,h4⟩
 ·rename_i hl;obtain⟨hd,h⟩:=qy h;exact⟨σ,_,[],_,_,_,h,gv hl,.inl rfl,hd,.inr ⟨rfl,rfl,rfl⟩,tV⟩
 exact h.elim
structure Lex1 (P:Program) (all:List Oper) (E:Env) (σ0:St) (i0:Nat) (T:Nat->St) (s:Nat->SV) (md:Nat->MD) (run:Nat->Bool) (svs:Nat->LR) (ent:Nat->Ent):Prop where
 start:zeY (T i0) σ0
 next:∀(j:Nat) (o:Oper),i0<=j->all[j]?=some o->zeY (T (j+1)) ((T j).app o.dst (s j) (md j))
 dst:∀(j:Nat) (o:Oper),i0<=j->all[j]?=some o->∀t,o.dst=some t->t<σ0.nt
 guard:∀(j:Nat) (o:Oper),i0<=j->all[j]?=some o->qV all (T j) o (run j)
 step:∀(j:Nat) (o:Oper),i0<=j->all[j]?=some o->(run j=true/\zjN P o (T j) (svs j) (s j) (md j) (λk=>zdo (ent j).u (ent j).nk k=true)/\(ent j).t=zhe (T j).nk (md j))∨
  (run j=false/\s j=.val undef/\md j=.none)
 pw:∀j:Nat,i0<=j->j<=all.length->(T j).M.Pairwise λa b=>a.1≠b.1
 nodrop:∀(j:Nat) (o:Oper),i0<=j->all[j]?=some o->zcA (T j).nk (md j)
def zih{P:Program}{Γ:LS}(hT:TOK P Γ){all:List Oper}{E:Env}{K:St->Prop}:∀(l:List Oper) (i:Nat) (acc:List Ent) (σ:St) (ρ:zh) (a:Act) (w:World),i+l.length=all.length->
  (∀j:Nat,l[j]?=all[i+j]?)->acc.length=i->Rel E σ ρ a w->za2 P Γ all l i acc σ K->∃T s md run svs ent A,Lex1 P all E σ i T s md run svs ent/\K (T all.length)/\zjt (zbt all all.length) A=true/\
   A.length=all.length/\(∃B,A=B++acc)/\∀j:Nat,i<=j->j<all.length->A[all.length-1-j]?=some (ent j)
 |[],i,acc,σ,ρ,a,w,hlen,hl,hacc,hr,h=>by
  have hi:i=all.length:=by simpa using hlen
  subst hi;refine⟨λ_=>σ,λ_=>.junk,λ_=>.none,λ_=>false,λ_=>[],λ_=>zlY,acc,⟨.refl,?_,?_,?_,?_,λ_ _ _=>hr.mem.keys,?_⟩,h.go,h.ob,hacc,⟨[],rfl⟩,λj h1 h2=>by omega⟩ <;>
  ·intro j o hj ho;have:=(Xd.1 ho).1;omega
 |o::r,i,acc,σ,ρ,a,w,hlen,hl,hacc,hr,h=>by
  have h0:all[i]?=some o:=by simpa using (hl 0).symm
  obtain⟨σ',run0,svs0,s0,md0,e0,h1,hg,href,hd,hrun,hnd⟩:=zu3 hT hr h
  have hr':Rel E σ' ρ a w:=by
   rcases href with rfl|⟨t,s0,s1,h2,h3,rfl⟩
   ·exact hr
   exact hr.refine h2 h3
  have hnt:σ'.nt=σ.nt:=by rcases href with rfl|⟨t,s0,s1,h2,h3,rfl⟩ <;> rfl
  have href':zeY σ' σ:=by
   rcases href with rfl|⟨t,s2,s1,h2,h3,rfl⟩
   ·exact .refl
   refine⟨rfl,rfl,rfl,rfl,λt' s' hl'=>?_⟩;have hl':(if t=t' then some s1 else kK σ.L t')=some s':=by rw[←kq];exact hl'
   by_cases e:t=t'
   ·subst e;rw[Xe rfl]at hl';cases hl'
    exact⟨s2,h2,h3⟩
   rw[Xc e]at hl';exact⟨s',hl',λ_ _ _ _ _ h=>h⟩
  have hnext:∃ρ1 a1 w1,Rel E (σ'.app o.dst s0 md0) ρ1 a1 w1:=by
   obtain⟨_,hst,_⟩|⟨_,rfl,rfl⟩:=hrun
   ·obtain⟨v,w1,ha⟩:=(hst.does hr').ex;obtain⟨ρ1,hr1⟩:=hr'.app (λt e=>hnt ▸ hd t e) ha;exact⟨ρ1,_,w1,hr1⟩
   obtain⟨ρ1,hr1⟩:=hr'.app (λt e=>hnt ▸ hd t e) (uR hr'.mem);exact⟨ρ1,_,w,hr1⟩
  obtain⟨ρ1,a1,w1,hr1⟩:=hnext;obtain⟨T,s,md,run,svs,ent,A,hlex,hK,hA,hAl,⟨B,hB⟩,hAe⟩:=zih hT r (i+1) (e0::acc) _ ρ1 a1 w1 (by simp at hlen;omega) (λj=>by have:=hl (j+1);simpa[KB,J6 1 j] using this) (by simp[hacc]) hr1 h1;have hapn:(σ'.app o.dst s0 md0).nt=σ.nt:=hnt;have hil:i<all.length:=(Xd.1 h0).1
  refine⟨λj=>if j=i then σ' else T j,λj=>if j=i then s0 else s j,λj=>if j=i then md0 else md j,λj=>if j=i then run0 else run j,λj=>if j=i then svs0 else svs j,λj=>if j=i then e0 else ent j,A,
   ⟨by simpa using href',?_,?_,?_,?_,?_,?_⟩,by simpa[show all.length≠i by omega] using hK,hA,hAl,⟨B++[e0],by simp[hB]⟩,?_⟩
  ·intro j oj hj ho
   by_cases e:j=i
   ·subst e;rw[h0]at ho;cases ho
    simpa using hlex.start
   have:=hlex.next j oj oM ho
   simpa[e,show j+1≠i by omega] using this
  ·intro j oj hj ho t ht
   by_cases e:j=i
   ·subst e;rw[h0]at ho;cases ho
    exact hd t ht
   exact hapn ▸ hlex.dst j oj oM ho t ht
  ·intro j oj hj ho
   by_cases e:j=i
   ·subst e;rw[h0]at ho;cases ho
    simpa using hg
   simpa[e] using hlex.guard j oj oM ho
  ·intro j oj hj ho
   by_cases e:j=i
   ·subst e;rw[h0]at ho;cases ho
    simpa using hrun
   simpa[e] using hlex.step j oj oM ho
  ·intro j hj hjl
   by_cases e:j=i
   ·subst e
    simpa using hr'.mem.keys
   simpa[e] using hlex.pw j oM hjl
  ·intro j oj hj ho
   by_cases e:j=i
   ·subst e
    simpa using hnd
   simpa[e] using hlex.nodrop j oj oM ho
  intro j hj hjl
  by_cases e:j=i
  ·subst e
   have hBl:B.length=all.length-1-j:=by
    have:=Xg List.length hB;simp[hAl,hacc]at this;omega
   simp only[if_true];rw[hB,XG oM,hBl];simp
  simpa[e] using hAe j oM hjl
def zgf(hT:TOK P Γ){w:World}(hr:Rel E σ ρ a w)(hord:zfr ops.toList=true)(h:za2 P Γ ops.toList ops.toList 0 [] σ K)(hQ:∀σ ρ a w,K σ->Rel E σ ρ a w->Q .normal a w):wpAny P .any ops Q ops.size (Array.replicate ops.size false) a { w with drawn:=w.drawn+1 }:=
 zmc hr (λw hr=>by
  obtain⟨T,s,md,run,svs,ent,A,hlex,hK,hA,hAl,_,hAe⟩:=zih hT ops.toList 0 [] σ ρ a w sI (λj=>by simp) rfl hr h;obtain⟨hedges,hslot⟩:=zu2 hord
  refine⟨T,s,md,run,svs,λj k=>zdo (ent j).u (ent j).nk k=true/\run j=true,⟨hlex.start,λj o ho=>hlex.next j o (Xh _) ho,λj o ho=>hlex.dst j o (Xh _) ho,λj o ho=>hlex.guard j o (Xh _) ho,
   λj o ho=>?_,λj hj=>hlex.pw j (Xh _) hj,λj o ho=>hlex.nodrop j o (Xh _) ho,hedges,hslot,λi j hij hjl k hk=>?_⟩,hK⟩
  ·rcases hlex.step j o (Xh _) ho with⟨h1,h2,_⟩|h1
   ·obtain⟨lm,h3,h4⟩:=h2.ok;exact .inl ⟨h1,⟨lm,h3,λk m hk=>⟨⟨(h4 k m hk).1,h1⟩,(h4 k m hk).2⟩⟩,h2.ev⟩
   exact .inr h1
  have tch:∀q:Nat,q<ops.toList.length->qW T md q k->zeR k (ent q).t=true:=λq hq ht=>by
   rcases hlex.step q _ (Xh _) (Xb hq) with⟨_,_,h3⟩|⟨_,_,h3⟩
   ·rw[h3];exact zrZ ht
   unfold qW at ht;rw[h3]at ht;exact ht.elim
  have hc:zo5 (ent i) (ent j)=true:=by
   unfold zo5
   obtain⟨ht,hu|ht2⟩|⟨hu,ht2⟩:=hk
   ·rw[zjP (tch i oM ht) (.inl hu.1)]
   ·rw[zjP (tch i oM ht) (.inr (tch j hjl ht2))]
   rw[zpu (tch j hjl ht2) hu.1];split <;> rfl
  have h1:=hAe i (Xh _) oM;have h2:=hAe j (Xh _) hjl;rw[←hAl]at h1 h2
  exact zdu _ _ j i hjl (zjQ hA i j _ _ hij oM h1 h2 hc)) hQ
def zpx(hT:TOK P Γ)(hm:P.follows .mixedOrders=true){id:Nat}{w:World}(hr:Rel E σ ρ a w)(hord:zfr ops.toList=true)(h:za2 P Γ ops.toList ops.toList 0 [] σ K)(hQ:∀σ ρ a w,K σ->Rel E σ ρ a w->Q .normal a w):(Code.region id ops true).wp P Q a w:=
 wp_region_any hm (zgf hT hr hord h hQ)
end
end Go.Gs
