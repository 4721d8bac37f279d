/- A region that draws its order: the run in the order of its text serves for every order. -/
import Derived.Test.YtjfbljononkmcaaMA
import Derived.Test.YtjfbljononkmcaaMAN
set_option maxRecDepth 100000
set_option maxHeartbeats 8000000
set_option linter.all false
namespace Go.Gs
def Down(all:List Oper)(D:Nat->Prop):Prop:=∀i o,D i->all[i]? =some o->∀e∈o.after,Region.binds .any e=true->D e.on
def Anc(all:List Oper)(j i:Nat):Prop:=∀D:Nat->Prop,Down all D->(∀o,all[j]? =some o->∀e∈o.after,Region.binds .any e=true->D e.on)->D i
theorem yT(all:List Oper)(n:Nat):(jx all n).length=n:=by
 induction n with
 | zero=>rfl
 | succ n ih=>simp [jx,ih]
theorem zbw(all:List Oper):∀(n j:Nat),j < n->(jx all n)[j]? =some (match all[j]? with | some o=>zdO (jx all j) o | none=>0)
 | 0,j,h=>oM
 | n+1,j,h=>by
  simp only [jx]
  by_cases hj:j < n
  ·rw [List.getElem?_append_left (by rw [yT];exact hj)];exact zbw all n j hj
  ·have:j=n:=by omega
   subst this;rw [List.getElem?_append_right (by rw [yT];omega),yT];simp;rfl
theorem uI(all:List Oper):∀(n j i:Nat),j < n->((jx all n).getD j 0).testBit i=true->Anc all j i:=by
 intro n j
 induction j using Nat.strongRecOn generalizing n with
 | _ j ih=>
  intro i hj hbit D hD hedges;have hg:=zbw all n j hj;rw [List.getD_eq_getElem?_getD,hg] at hbit
  cases ho:all[j]? with
  | none=>simp [ho] at hbit
  | some o=>
   simp only [ho,Option.getD_some] at hbit;unfold zdO at hbit
   have key:∀(es:List Edge) (s0:Nat),(∀e∈es,e∈o.after)->(s0.testBit i=true->D i)->
     (es.foldl (fun s e=>if Region.binds .any e then s|||2 ^ e.on|||(jx all j).getD e.on 0 else s) s0).testBit i=true->D i:=by
    intro es
    induction es with
    | nil=>intro s0 _ h0 h;exact h0 h
    | cons e es ihe=>
     intro s0 hes h0 h;simp only [List.foldl_cons] at h;refine ihe _ (fun e' he'=>hes e' (.tail _ he')) ?_ h;intro hb
     split at hb
     ·rename_i hbind;simp only [Nat.testBit_or,Bool.or_eq_true] at hb;have hde:D e.on:=hedges o ho e (hes e (.head _)) hbind
      rcases hb with (hb | hb) | hb
      ·exact h0 hb
      ·rw [Nat.testBit_two_pow] at hb;have:e.on=i:=by simpa using hb
       exact this ▸ hde
      ·by_cases hlt:e.on < j
       ·refine ih e.on hlt j i hlt hb D hD fun o' ho'=>hD e.on o' hde ho'
       ·rw [List.getD_eq_getElem?_getD,List.getElem?_eq_none (by rw [yT];omega)] at hb;simp at hb
     ·exact h0 hb
   exact key o.after.toList 0 (fun e he=>by simpa using he) (fun h=>by simp at h) hbit
theorem zd2{all:List Oper}(h:jW all=true):(∀j o,all[j]? =some o->∀e∈o.after,Region.binds .any e=true->e.on < j)/\
  ∀i j oi oj,i < j->all[i]? =some oi->all[j]? =some oj->zfd all oi oj=true->Anc all j i:=by
 unfold jW at h;simp only [Bool.and_eq_true] at h;obtain ⟨h1,h2⟩:=h;refine ⟨fun j o ho e he hb=>?_,fun i j oi oj hij hi hj hc=>?_⟩
 ·have hjl:j < all.length:=(List.getElem?_eq_some_iff.1 ho).1;have:=List.all_eq_true.1 h1 j (List.mem_range.2 hjl);simp only [ho] at this;have:=List.all_eq_true.1 this e (by simpa using he);simp only [hb,Bool.not_true,Bool.false_or] at this;exact Nat.le_of_ble_eq_true this
 ·have hjl:j < all.length:=(List.getElem?_eq_some_iff.1 hj).1;have:=List.all_eq_true.1 h2 j (List.mem_range.2 hjl);have:=List.all_eq_true.1 this i (List.mem_range.2 hij);simp only [hi,hj,hc,Bool.not_true,Bool.or_false] at this;exact uI all all.length j i hjl this
theorem zfm{all:List Oper}{i:Nat}(h:zb5 all i=true):∀j oj,i < j->all[j]? =some oj->yf oj.op=true->Anc all j i:=by
 intro j oj hij hj hu;unfold zb5 at h;have hjl:j < all.length:=(List.getElem?_eq_some_iff.1 hj).1;have:=List.all_eq_true.1 h j (List.mem_range.2 hjl)
 have hnb:Nat.ble j i=false:=by
  cases hb:Nat.ble j i with
  | false=>rfl
  | true=>have:=Nat.le_of_ble_eq_true hb;omega
 simp only [hj,hu,hnb,Bool.not_true,Bool.or_false,Bool.false_or] at this;exact uI all all.length j i hjl this
theorem zaB{a b:List Nat}{t:Nat}(h1:t∈a)(h2:t∈b):yp a b=true:=by
 unfold yp;exact List.any_eq_true.2 ⟨t,h1,List.any_eq_true.2 ⟨t,h2,Nat.beq_refl t⟩⟩
def y8(σ' σ:St):Prop:=σ'.M=σ.M/\σ'.nk=σ.nk/\σ'.nt=σ.nt/\σ'.n0=σ.n0/\∀t s',ziv σ'.L t=some s'->∃s0,ziv σ.L t=some s0/\∀S Pm ρ w v,G S Pm ρ w s0 v->G S Pm ρ w s' v
theorem y8.refl{σ:St}:y8 σ σ:=⟨rfl,rfl,rfl,rfl,fun _ s h=>⟨s,h,fun _ _ _ _ _ h=>h⟩⟩
structure Lex0 (P:Program) (all:List Oper) (E:Env) (σ0:St) (i0:Nat) (T:Nat->St) (s:Nat->SV) (md:Nat->MD) (run:Nat->Bool) (svs:Nat->List SV):Prop where
 start:y8 (T i0) σ0
 next:∀j o,i0<=j->all[j]? =some o->y8 (T (j+1)) ((T j).app o.dst (s j) (md j))
 dst:∀j o,i0<=j->all[j]? =some o->∀t,o.dst=some t->t < σ0.nt
 guard:∀j o,i0<=j->all[j]? =some o->kw all (T j) o (run j)
 step:∀j o,i0<=j->all[j]? =some o->(run j=true/\zbu P true all j o (T j) (svs j) (s j) (md j))∨(run j=false/\s j=.val undef/\md j=.none)
 pw:∀j,i0<=j->j<=all.length->(T j).M.Pairwise fun a b=>a.1≠b.1
theorem zaC{P:Program}{Γ:List (TypeId×TI)}(hT:TOK P Γ){all:List Oper}{E:Env}{K:St->Prop}:∀(l:List Oper) (i:Nat) (σ:St) (ρ:zd) (a:Act) (w:World),i+l.length=all.length->
  (∀j,l[j]? =all[i+j]?)->Rel E σ ρ a w->jy P Γ true all l i σ K->∃T s md run svs,Lex0 P all E σ i T s md run svs/\K (T all.length)
 | [],i,σ,ρ,a,w,hlen,hl,hr,h=>by
  have hi:i=all.length:=by simpa using hlen
  subst hi;refine ⟨fun _=>σ,fun _=>.junk,fun _=>.none,fun _=>false,fun _=>[],⟨.refl,?_,?_,?_,?_,fun _ _ _=>hr.mem.keys⟩,h⟩ <;>
  ·intro j o hj ho;have:=(List.getElem?_eq_some_iff.1 ho).1;omega
 | o::r,i,σ,ρ,a,w,hlen,hl,hr,h=>by
  have h0:all[i]? =some o:=by simpa using (hl 0).symm
  obtain ⟨σ',run0,svs0,s0,md0,h1,hg,href,hd,hrun⟩:=zc8 hT hr h
  have hr':Rel E σ' ρ a w:=by
   rcases href with rfl | ⟨t,s0,s1,h2,h3,rfl⟩
   ·exact hr
   ·exact hr.refine h2 h3
  have hnt:σ'.nt=σ.nt:=by rcases href with rfl | ⟨t,s0,s1,h2,h3,rfl⟩ <;> rfl
  have href':y8 σ' σ:=by
   rcases href with rfl | ⟨t,s2,s1,h2,h3,rfl⟩
   ·exact .refl
   ·refine ⟨rfl,rfl,rfl,rfl,fun t' s' hl'=>?_⟩;have hl':(if t=t' then some s1 else ziv σ.L t')=some s':=by rw [← kI];exact hl'
    by_cases e:t=t'
    ·subst e;rw [if_pos rfl] at hl';cases hl'
     exact ⟨s2,h2,h3⟩
    ·rw [if_neg e] at hl';exact ⟨s',hl',fun _ _ _ _ _ h=>h⟩
  have hnext:∃ρ1 a1 w1,Rel E (σ'.app o.dst s0 md0) ρ1 a1 w1:=by
   rcases hrun with ⟨_,hst⟩ | ⟨_,rfl,rfl⟩
   ·obtain ⟨v,w1,ha⟩:=(hst.does hr').ex;obtain ⟨ρ1,hr1⟩:=hr'.app (fun t e=>hnt ▸ hd t e) ha;exact ⟨ρ1,_,w1,hr1⟩
   ·obtain ⟨ρ1,hr1⟩:=hr'.app (fun t e=>hnt ▸ hd t e) (j5 hr'.mem);exact ⟨ρ1,_,w,hr1⟩
  obtain ⟨ρ1,a1,w1,hr1⟩:=hnext;obtain ⟨T,s,md,run,svs,hlex,hK⟩:=zaC hT r (i+1) _ ρ1 a1 w1 (by simp at hlen;omega) (fun j=>by have:=hl (j+1);simpa [Nat.add_assoc,Nat.add_comm 1 j] using this) hr1 h1;have hapn:(σ'.app o.dst s0 md0).nt=σ.nt:=hnt;have hil:i < all.length:=(List.getElem?_eq_some_iff.1 h0).1
  refine ⟨fun j=>if j=i then σ' else T j,fun j=>if j=i then s0 else s j,fun j=>if j=i then md0 else md j,fun j=>if j=i then run0 else run j,fun j=>if j=i then svs0 else svs j,
   ⟨by simpa using href',?_,?_,?_,?_,?_⟩,by simpa [show all.length≠i by omega] using hK⟩
  ·intro j oj hj ho
   by_cases e:j=i
   ·subst e;rw [h0] at ho;cases ho
    simpa using hlex.start
   ·have:=hlex.next j oj oM ho
    simpa [e,show j+1≠i by omega] using this
  ·intro j oj hj ho t ht
   by_cases e:j=i
   ·subst e;rw [h0] at ho;cases ho
    exact hd t ht
   ·exact hapn ▸ hlex.dst j oj oM ho t ht
  ·intro j oj hj ho
   by_cases e:j=i
   ·subst e;rw [h0] at ho;cases ho
    simpa using hg
   ·simpa [e] using hlex.guard j oj oM ho
  ·intro j oj hj ho
   by_cases e:j=i
   ·subst e;rw [h0] at ho;cases ho
    simpa using hrun
   ·simpa [e] using hlex.step j oj oM ho
  ·intro j hj hjl
   by_cases e:j=i
   ·subst e
    simpa using hr'.mem.keys
   ·simpa [e] using hlex.pw j oM hjl
def zZ(T:Nat->St)(md:Nat->MD)(i k:Nat):Prop:=
 match md i with
 | .none=>False
 | .push _=>k=(T i).nk
 | .set k' _=>k=k'
 | .drop k'=>k=k'
 | .repl k' _=>k=k'∨k=(T i).nk
 | .give ks _ nn=>k∈ks∨((T i).nk<=k/\k < (T i).nk+nn)
def j6(κ:Nat)(md:MD):Prop:=
 match md with
 | .give ks new nn=>(∀k m,(k,m)∈new->k∈ks∨(κ<=k/\k < κ+nn))/\∀k,κ<=k->k < κ+nn->∃m,(k,m)∈new
 | _=>True
structure zaD (P:Program) (o:Oper) (σ:St) (svs:List SV) (s:SV) (md:MD) (U:Nat->Prop):Prop where
 ok:∃lm:Nat->Option Mem,kE P o.op svs lm σ.nk s md/\∀k m,lm k=some m->U k/\zl σ.M k=some m
 ev:∀{S Pm:Nat->Prop} {ρ:zd} {a:Act} {w:World},(∀t s,t∈u9 (zG o.op)->ziv σ.L t=some s->G S Pm ρ w s (a.tmps.getD t undef))->Gs S Pm ρ w svs ((zG o.op).map a.eval)
structure Lex (P:Program) (all:List Oper) (E:Env) (σ0:St) (T:Nat->St) (s:Nat->SV) (md:Nat->MD) (run:Nat->Bool) (svs:Nat->List SV) (U:Nat->Nat->Prop):Prop where
 start:y8 (T 0) σ0
 next:∀(j:Nat) (o:Oper),all[j]? =some o->y8 (T (j+1)) ((T j).app o.dst (s j) (md j))
 dst:∀(j:Nat) (o:Oper),all[j]? =some o->∀t,o.dst=some t->t < σ0.nt
 guard:∀(j:Nat) (o:Oper),all[j]? =some o->kw all (T j) o (run j)
 step:∀(j:Nat) (o:Oper),all[j]? =some o->(run j=true/\zaD P o (T j) (svs j) (s j) (md j) (U j))∨(run j=false/\s j=.val undef/\md j=.none)
 pw:∀j:Nat,j<=all.length->(T j).M.Pairwise fun a b=>a.1≠b.1
 nodrop:∀(j:Nat) (o:Oper),all[j]? =some o->j6 (T j).nk (md j)
 edges:∀(j:Nat) (o:Oper),all[j]? =some o->∀e∈o.after,Region.binds .any e=true->e.on < j
 slot:∀(i j:Nat) (oi oj:Oper),i < j->all[i]? =some oi->all[j]? =some oj->zaj all oi oj=true->Anc all j i
 mem:∀(i j:Nat),i < j->j < all.length->∀k:Nat,(zZ T md i k/\(U j k∨zZ T md j k))∨(U i k/\zZ T md j k)->Anc all j i
structure Inv (all:List Oper) (E:Env) (σ0:St) (T:Nat->St) (md:Nat->MD) (D:Nat->Prop) (M:List (Nat×Mem)) (ρ:zd) (a:Act) (w:World):Prop where
 size:a.tmps.size=σ0.nt
 defers:a.defers=E.ds
 down:Down all D
 mem:zj E.Keep M ρ w
 regs:∀t j sv,j<=all.length->(∀i o,all[i]? =some o->o.dst=some t->(D i↔i < j))->ziv (T j).L t=some sv->
  t < σ0.nt/\G (fun b=>E.Keep b∨Own M ρ b) (Own M ρ) ρ w sv (a.tmps.getD t undef)
 keys:∀k j m,j<=all.length->(∀i,i < all.length->zZ T md i k->(D i↔i < j))->zl (T j).M k=some m->zl M k=some m
 names:∀k v,ρ k=some v->k < σ0.nk∨∃i,D i/\i < all.length/\(T i).nk<=k/\k < qV (T i).nk (md i)
 stp:Stp E.W0 (Own M ρ) E.ρ0 ρ E.w0 w
theorem zK{M:List (Nat×Mem)}{k k':Nat}{m:Mem}:zl ((k,m)::M) k'=if k=k' then some m else zl M k':=by
 simp only [zl]
 by_cases h:k=k'
 ·subst h;simp [Nat.beq_refl]
 ·have:Nat.beq k k'=false:=by
   cases hb:Nat.beq k k' with
   | false=>rfl
   | true=>exact absurd (Nat.eq_of_beq_eq_true hb) h
  simp [this,h]
theorem zaE{M:List (Nat×Mem)}{k k':Nat}{m:Mem}:zl (zJ M k m) k'=if k=k' then (zl M k).map (fun _=>m) else zl M k':=by
 induction M with
 | nil=>simp [zJ,zl]
 | cons x r ih=>
  obtain ⟨q,y⟩:=x;simp only [zJ]
  split
  ·rename_i hb;have:=Nat.eq_of_beq_eq_true hb;subst this;rw [zK,zK,zK]
   by_cases e:q=k' <;> simp [e]
  ·rename_i hb;have hne:=Nat.ne_of_beq_eq_false hb;rw [zK,ih,zK,zK]
   by_cases e:k=k'
   ·subst e;simp [hne]
   ·simp [e]
theorem yE{M:List (Nat×Mem)}{k k':Nat}(h:k≠k'):zl (zL M k) k'=zl M k':=by
 induction M with
 | nil=>rfl
 | cons x r ih=>
  obtain ⟨q,y⟩:=x;simp only [zL]
  split
  ·rename_i hb;have:=Nat.eq_of_beq_eq_true hb;subst this;rw [zK,if_neg h]
  ·rw [zK,zK,ih]
theorem qM{M:List (Nat×Mem)}{k:Nat}(hp:M.Pairwise fun a b=>a.1≠b.1):zl (zL M k) k=none:=by
 cases h:zl (zL M k) k with
 | none=>rfl
 | some m=>exact absurd rfl (kF hp _ (zg h))
section lex
variable {P:Program} {all:List Oper} {E:Env} {σ0:St} {T:Nat->St} {s:Nat->SV} {md:Nat->MD} {run:Nat->Bool} {svs:Nat->List SV} {U:Nat->Nat->Prop}
theorem Lex.nk_next(h:Lex P all E σ0 T s md run svs U){j:Nat}(hj:j < all.length):(T (j+1)).nk=qV (T j).nk (md j):=by
 have:=(h.next j _ (List.getElem?_eq_getElem hj)).2.1;exact this
theorem zeD(κ:Nat)(m:MD):κ<=qV κ m:=by cases m <;> simp [qV]
theorem Lex.nk_mono(h:Lex P all E σ0 T s md run svs U){i:Nat}:∀{j:Nat},i<=j->j<=all.length->(T i).nk<=(T j).nk
 | 0,hij,_=>by
   have:i=0:=oM;subst this;exact Nat.le_refl _
 | j+1,hij,hj=>by
  by_cases e:i=j+1
  ·subst e;exact Nat.le_refl _
  ·have:=h.nk_mono (i:=i) (j:=j) oM oM;rw [h.nk_next oM];exact Nat.le_trans this (zeD _ _)
theorem Lex.nk_push(h:Lex P all E σ0 T s md run svs U){i j:Nat}(hij:i < j)(hj:j<=all.length):qV (T i).nk (md i)<=(T j).nk:=by
 have h1:=h.nk_mono (i:=i+1) (j:=j) oM hj
 rwa [h.nk_next oM] at h1
theorem zf5{σ:St}{d:Option Tmp}{sv:SV}{m:MD}{t:Nat}(hd:d≠some t):ziv (σ.app d sv m).L t=ziv σ.L t:=by
 cases d with
 | none=>rfl
 | some d=>
  show ziv ((d,sv)::σ.L) t=_;rw [kI,if_neg (fun e=>hd (by rw [e]))]
theorem Lex.look_chain(h:Lex P all E σ0 T s md run svs U){t j0:Nat}:∀{j:Nat} {s':SV},j0<=j->j<=all.length->(∀i o,j0<=i->i < j->all[i]? =some o->o.dst≠some t)->ziv (T j).L t=some s'->
  ∃s0,ziv (T j0).L t=some s0/\∀S Pm ρ w v,G S Pm ρ w s0 v->G S Pm ρ w s' v
 | 0,s',h0,_,_,hl=>by
  have:j0=0:=oM;subst this;exact ⟨s',hl,fun _ _ _ _ _ h=>h⟩
 | j+1,s',h0,hj,hw,hl=>by
  by_cases e:j0=j+1
  ·subst e;exact ⟨s',hl,fun _ _ _ _ _ h=>h⟩
  ·have hlt:j < all.length:=by omega
   have ho:=List.getElem?_eq_getElem hlt;obtain ⟨s1,hl1,hi1⟩:=(h.next j _ ho).2.2.2.2 t s' hl;rw [zf5 (hw j _ oM oM ho)] at hl1;obtain ⟨s0,hl0,hi0⟩:=h.look_chain (j:=j) oM oM (fun i o h1 h2=>hw i o h1 oM) hl1;exact ⟨s0,hl0,fun S Pm ρ w v hg=>hi1 _ _ _ _ _ (hi0 _ _ _ _ _ hg)⟩
theorem uJ{A B:List (Nat×Mem)}{k:Nat}:zl (A++B) k=(match zl A k with | some m=>some m | none=>zl B k):=by
 induction A with
 | nil=>rfl
 | cons x r ih=>
  obtain ⟨q,y⟩:=x;rw [List.cons_append,zK,zK]
  by_cases h:q=k
  ·simp [h]
  ·simp only [h,if_false];exact ih
theorem jt{k:Nat}:∀{ks:List Nat} {M:List (Nat×Mem)},k∉ks->zl (qe M ks) k=zl M k
 | [],_,_=>rfl
 | q::r,M,h=>by
  simp only [qe];rw [jt (fun e=>h (.tail _ e)),yE (fun e=>h (by rw [e];exact .head _))]
theorem za9{A:List (Nat×Mem)}{k:Nat}(h:∀m,(k,m)∉A):zl A k=none:=by
 cases hl:zl A k with
 | none=>rfl
 | some m=>exact absurd (zg hl) (h m)
theorem zba{A:List (Nat×Mem)}{k:Nat}{m:Mem}(h:(k,m)∈A):∃m',zl A k=some m':=by
 induction A with
 | nil=>cases h
 | cons x r ih=>
  obtain ⟨q,y⟩:=x;rw [zK]
  by_cases e:q=k
  ·exact ⟨y,if_pos e⟩
  ·rw [if_neg e]
   cases h with
   | head=>exact absurd rfl e
   | tail _ h=>exact ih h
theorem ja{k:Nat}:∀{ks:List Nat} {M:List (Nat×Mem)},M.Pairwise (fun a b=>a.1≠b.1)->k∈ks->zl (qe M ks) k=none
 | [],_,_,h=>(by cases h)
 | q::r,M,hp,h=>by
  simp only [qe]
  by_cases hr:k∈r
  ·exact ja (zN hp) hr
  ·rw [jt hr]
   cases h with
   | head=>exact qM hp
   | tail _ h=>exact absurd h hr
theorem zbx{M:List (Nat×Mem)}{j k:Nat}(hgv:j6 (T j).nk (md j))(hn:¬zZ T md j k):zl (jO M (T j).nk (md j)) k=zl M k:=by
 unfold zZ at hn
 cases hm:md j <;> simp only [hm] at hn <;> simp only [jO]
 ·rw [zK,if_neg (fun e=>hn e.symm)]
 ·rw [zaE,if_neg (fun e=>hn e.symm)]
 ·exact yE (fun e=>hn e.symm)
 ·rw [zK,if_neg (fun e=>hn (.inr e.symm))];exact yE (fun e=>hn (.inl e.symm))
 ·rename_i ks new nn;unfold j6 at hgv;simp only [hm] at hgv;rw [uJ,za9 (fun m hmem=>hn (hgv.1 k m hmem)),jt (fun h=>hn (.inl h))]
theorem Lex.lookM_chain(h:Lex P all E σ0 T s md run svs U){k j0:Nat}:∀{j:Nat},j0<=j->j<=all.length->(∀i,j0<=i->i < j->¬zZ T md i k)->zl (T j).M k=zl (T j0).M k
 | 0,h0,_,_=>by
  have:j0=0:=oM;subst this;rfl
 | j+1,h0,hj,hw=>by
  by_cases e:j0=j+1
  ·subst e;rfl
  ·have hlt:j < all.length:=by omega
   have ho:=List.getElem?_eq_getElem hlt;have hM:=(h.next j _ ho).1;rw [hM];show zl (jO (T j).M (T j).nk (md j)) k=_;rw [zbx (h.nodrop j _ ho) (hw j oM oM)];exact h.lookM_chain oM oM fun i h1 h2=>hw i h1 oM
theorem zfn{M:List (Nat×Mem)}{k:Nat}{m:Mem}(hp:M.Pairwise fun a b=>a.1≠b.1)(h:(k,m)∈M):zl M k=some m:=by
 induction M with
 | nil=>cases h
 | cons x r ih=>
  obtain ⟨q,y⟩:=x;rw [List.pairwise_cons] at hp;rw [zK]
  cases h with
  | head=>simp
  | tail _ h=>
   have:q≠k:=hp.1 _ h;rw [if_neg this];exact ih hp.2 h
theorem Inv.after (hlex:Lex P all E σ0 T s md run svs U) {D:Nat->Prop} {M:List (Nat×Mem)} {ρ:zd} {a:Act} {w w':World} {v:Value} (hI:Inv all E σ0 T md D M ρ a w)
  {j:Nat} {o:Oper} (ho:all[j]? =some o) (hj:¬D j) (hedges:∀e∈o.after,Region.binds .any e=true->D e.on) (ha:zE E.Keep M ρ w (T j).nk (s j) (md j) v w'):
  ∃M' ρ',Inv all E σ0 T md (fun i=>i=j∨D i) M' ρ' (a.put o.dst v) w':=by
 obtain ⟨ρ',hs,hm,hg,hρ⟩:=ha;have hjl:j < all.length:=(List.getElem?_eq_some_iff.1 ho).1;have hbefore:∀i,Anc all j i->D i:=fun i hA=>hA D hI.down (fun o' ho'=>by rw [ho] at ho';cases ho';exact hedges)
 have hafter:∀i,Anc all i j->¬D i:=fun i hA hDi=>hj (hA D hI.down (fun oi hi=>hI.down i oi hDi hi))
 have hdef:(a.put o.dst v).defers=E.ds:=by cases hd:o.dst <;> exact hI.defers
 refine ⟨jO M (T j).nk (md j),ρ',?_,hdef,?_,hm,?_,?_,?_,hI.stp.trans hs⟩
 ·have:=hI.size
  cases hd:o.dst <;> simpa [Act.put] using this
 ·intro i oi hi hoi e he hb
  rcases hi with rfl | hi
  ·rw [ho] at hoi;cases hoi;exact .inr (hedges e he hb)
  ·exact .inr (hI.down i oi hi hoi e he hb)
 ·intro t j' sv hj' hag hl
  have hold:o.dst≠some t->(∀i oi,all[i]? =some oi->oi.dst=some t->(D i↔i < j')):=fun hd i oi hi hdi=>by
   have h1:=hag i oi hi hdi;constructor
   ·intro h;exact h1.1 (.inr h)
   ·intro h
    rcases h1.2 h with rfl | h
    ·rw [ho] at hi;cases hi;exact absurd hdi hd
    ·exact h
  by_cases hd:o.dst=some t
  ·have hlt:j < j':=(hag j o ho hd).1 (.inl rfl)
   have hno:∀i oi,j+1<=i->i < j'->all[i]? =some oi->oi.dst≠some t:=fun i oi h1 h2 hi hdi=>by
    have hDi:=((hag i oi hi hdi).2 h2).resolve_left oM;refine hafter i (hlex.slot j i o oi oM ho hi ?_) hDi;unfold zaj;have:yp (kZ o) (kZ oi)=true:=zaB (t:=t) (by simp [kZ,hd]) (by simp [kZ,hdi]);simp [this]
   obtain ⟨s1,hl1,hi1⟩:=hlex.look_chain (j0:=j+1) oM hj' hno hl;obtain ⟨s2,hl2,hi2⟩:=(hlex.next j o ho).2.2.2.2 t s1 hl1;have hl2:ziv (putL (T j).L o.dst (s j)) t=some s2:=hl2;rw [hd] at hl2;have hl2:ziv ((t,s j)::(T j).L) t=some s2:=hl2;rw [kI,if_pos rfl] at hl2
   cases hl2
   have htl:=hlex.dst j o ho t hd;refine ⟨htl,?_⟩;rw [hd,zch (by rw [hI.size];exact htl),if_pos rfl];exact hi1 _ _ _ _ _ (hi2 _ _ _ _ _ hg)
  ·obtain ⟨htl,hg'⟩:=hI.regs t j' sv hj' (hold hd) hl;refine ⟨htl,?_⟩
   have hput:(a.put o.dst v).tmps.getD t undef=a.tmps.getD t undef:=by
    cases hdd:o.dst with
    | none=>rfl
    | some d=>
     have hdl:=hlex.dst j o ho d hdd;rw [zch (by rw [hI.size];exact hdl),if_neg (fun e=>hd (by rw [hdd,e]))]
   rw [hput];exact hg'.stp hs
 ·intro k j' m hj' hag hl
  by_cases ht:zZ T md j k
  ·have hlt:j < j':=(hag j hjl ht).1 (.inl rfl)
   have hno:∀i,j+1<=i->i < j'->¬zZ T md i k:=fun i h1 h2 hti=>by
    have hil:i < all.length:=oM;have hDi:=((hag i hil hti).2 h2).resolve_left oM;exact hafter i (hlex.mem j i oM hil k (.inl ⟨ht,.inr hti⟩)) hDi
   rw [hlex.lookM_chain (j0:=j+1) oM hj' hno,(hlex.next j o ho).1] at hl;have hl:zl (jO (T j).M (T j).nk (md j)) k=some m:=hl
   have hagj:∀m,zl (T j).M k=some m->zl M k=some m:=fun m hlk=>by
    refine hI.keys k j m oM (fun i hil hti=>?_) hlk;constructor
    ·intro hDi
     rcases Nat.lt_trichotomy i j with h | h | h
     ·exact h
     ·subst h;exact absurd hDi hj
     ·exact absurd hDi (hafter i (hlex.mem j i h hil k (.inl ⟨ht,.inr hti⟩)))
    ·intro hij;exact hbefore i (hlex.mem i j hij hjl k (.inl ⟨hti,.inr ht⟩))
   unfold zZ at ht
   cases hmd:md j with
   | none=>simp only [hmd] at ht
   | push m'=>
    simp only [hmd] at ht hl ⊢;simp only [jO] at hl ⊢;rw [zK,if_pos ht.symm] at hl ⊢;exact hl
   | set k' m'=>
    simp only [hmd] at ht hl ⊢;subst ht;simp only [jO] at hl ⊢;rw [zaE,if_pos rfl] at hl ⊢
    cases hq:zl (T j).M k with
    | none=>rw [hq] at hl;cases hl
    | some m0=>
     rw [hq] at hl;rw [hagj m0 hq];exact hl
   | drop k'=>
    simp only [hmd] at ht hl;subst ht;simp only [jO] at hl;rw [qM (hlex.pw j oM)] at hl
    cases hl
   | repl k' m'=>
    simp only [hmd] at ht hl ⊢;simp only [jO] at hl ⊢;rw [zK] at hl ⊢
    by_cases e:(T j).nk=k
    ·rw [if_pos e] at hl ⊢;exact hl
    ·rw [if_neg e] at hl ⊢;have hkk:=ht.resolve_right (fun h=>e h.symm);subst hkk;rw [qM (hlex.pw j oM)] at hl
     cases hl
   | give ks new nn=>
    have hgv:=hlex.nodrop j o ho;unfold j6 at hgv;simp only [hmd] at ht hl hgv ⊢;simp only [jO] at hl ⊢;rw [uJ] at hl ⊢
    cases hq:zl new k with
    | some m0=>rw [hq] at hl;exact hl
    | none=>
     exfalso
     rw [hq] at hl
     rcases ht with ht | ⟨h1,h2⟩
     ·have hl:zl (qe (T j).M ks) k=some m:=hl;rw [ja (hlex.pw j oM) ht] at hl
      cases hl
     ·obtain ⟨m1,hm1⟩:=hgv.2 k h1 h2;obtain ⟨m2,hm2⟩:=zba hm1;rw [hq] at hm2;cases hm2
  ·rw [zbx (hlex.nodrop j o ho) ht];refine hI.keys k j' m hj' (fun i hil hti=>?_) hl;have h1:=hag i hil hti;constructor
   ·intro h;exact h1.1 (.inr h)
   ·intro h
    rcases h1.2 h with rfl | h
    ·exact absurd hti ht
    ·exact h
 ·intro k v' hv'
  by_cases hk:k < (T j).nk∨qV (T j).nk (md j)<=k
  ·rw [hρ k hk] at hv'
   rcases hI.names k v' hv' with h | ⟨i,h1,h2,h3,h4⟩
   ·exact .inl h
   ·exact .inr ⟨i,.inr h1,h2,h3,h4⟩
  ·exact .inr ⟨j,.inl rfl,hjl,oM,oM⟩
theorem Lex.nt(h:Lex P all E σ0 T s md run svs U):∀{j:Nat},j<=all.length->(T j).nt=σ0.nt/\(T j).n0=σ0.n0
 | 0,_=>⟨h.start.2.2.1,h.start.2.2.2.1⟩
 | j+1,hj=>by
  have ho:=List.getElem?_eq_getElem (show j < all.length by omega);obtain ⟨_,_,h1,h2,_⟩:=h.next j _ ho
  obtain ⟨h3,h4⟩:=h.nt (j:=j) oM;exact ⟨h1.trans h3,h2.trans h4⟩
theorem Inv.sees (hlex:Lex P all E σ0 T s md run svs U) {D:Nat->Prop} {M:List (Nat×Mem)} {ρ:zd} {a:Act} {w:World} (hI:Inv all E σ0 T md D M ρ a w)
  {j:Nat} {o:Oper} (ho:all[j]? =some o) (hj:¬D j) (hedges:∀e∈o.after,Region.binds .any e=true->D e.on):
  (∀t,t∈jV all o->∀sv,ziv (T j).L t=some sv->t < σ0.nt/\G (fun b=>E.Keep b∨Own M ρ b) (Own M ρ) ρ w sv (a.tmps.getD t undef))/\
  (∀k m,U j k->zl (T j).M k=some m->zl M k=some m)/\(∀k,(T j).nk<=k->k < qV (T j).nk (md j)->ρ k=none):=by
 have hjl:j < all.length:=(List.getElem?_eq_some_iff.1 ho).1;have hbefore:∀i,Anc all j i->D i:=fun i hA=>hA D hI.down (fun o' ho'=>by rw [ho] at ho';cases ho';exact hedges)
 have hafter:∀i,Anc all i j->¬D i:=fun i hA hDi=>hj (hA D hI.down (fun oi hi=>hI.down i oi hDi hi))
 refine ⟨fun t ht sv hl=>hI.regs t j sv oM (fun i oi hi hd=>?_) hl,fun k m hu hlk=>?_,fun q hp1 hp2=>?_⟩
 ·constructor
  ·intro hDi
   rcases Nat.lt_trichotomy i j with h | h | h
   ·exact h
   ·subst h;exact absurd hDi hj
   ·refine absurd hDi (hafter i (hlex.slot j i o oi h ho hi ?_));have:yp (jV all o) (kZ oi)=true:=zaB ht (by simp [kZ,hd]);unfold zaj;simp [this]
  ·intro hij;refine hbefore i (hlex.slot i j oi o hij hi ho ?_);have:yp (kZ oi) (jV all o)=true:=zaB (t:=t) (by simp [kZ,hd]) ht;unfold zaj;simp [this]
 ·refine hI.keys k j m oM (fun i hil hti=>?_) hlk;constructor
  ·intro hDi
   rcases Nat.lt_trichotomy i j with h | h | h
   ·exact h
   ·subst h;exact absurd hDi hj
   ·exact absurd hDi (hafter i (hlex.mem j i h hil k (.inr ⟨hu,hti⟩)))
  ·intro hij;exact hbefore i (hlex.mem i j hij hjl k (.inl ⟨hti,.inl hu⟩))
 ·cases hq:ρ q with
  | none=>rfl
  | some v=>
   exfalso
   rcases hI.names _ v hq with h | ⟨i,h1,h2,h3,h4⟩
   ·have h5:=hlex.nk_mono (i:=0) (j:=j) oM oM;have h6:(T 0).nk=σ0.nk:=hlex.start.2.1;omega
   ·rcases Nat.lt_trichotomy i j with h | h | h
    ·have:=hlex.nk_push h oM;omega
    ·subst h;exact hj h1
    ·have:=hlex.nk_push h oM;omega
theorem Inv.step (hlex:Lex P all E σ0 T s md run svs U) {D:Nat->Prop} {M:List (Nat×Mem)} {ρ:zd} {a:Act} {w:World} (hI:Inv all E σ0 T md D M ρ a w)
  {j:Nat} {o:Oper} (ho:all[j]? =some o) (hj:¬D j) (hedges:∀e∈o.after,Region.binds .any e=true->D e.on) {Q:Exit->Act->World->Prop} {K:Act->World->Prop}
  (hK:∀M ρ a w,Inv all E σ0 T md (fun i=>i=j∨D i) M ρ a w->K a w):wpOp P all.toArray Q j K a w:=by
 have hjl:j < all.length:=(List.getElem?_eq_some_iff.1 ho).1;obtain ⟨h1,h2,h3⟩:=hI.sees hlex ho hj hedges;have hnt:=(hlex.nt (j:=j) oM).1
 have hw:Region.wanted o (yielded all.toArray a.tmps)=run j:=
  zbv (hlex.guard j o ho) (hI.size.trans hnt.symm) fun t b ⟨g,want,hg,hd⟩ hl=>by
   obtain ⟨h4,h5⟩:=h1 t (by simp [jV,hg,hd]) _ hl;exact ⟨hnt ▸ h4,h5.val_inv⟩
 have ho':all.toArray[j]? =some o:=by simpa using ho
 unfold wpOp;simp only [ho',hw]
 rcases hlex.step j o ho with ⟨hrun,hst⟩ | ⟨hrun,hs,hm⟩
 ·simp only [hrun,if_true];have hev:=hst.ev (S:=fun b=>E.Keep b∨Own M ρ b) (Pm:=Own M ρ) (ρ:=ρ) (a:=a) (w:=w) fun t sv ht hl=>(h1 t (by simp [jV,ht]) sv hl).2
  have hdo:zO P o a w (zE E.Keep M ρ w (T j).nk (s j) (md j)):=by
   obtain ⟨lm,hok,hlm⟩:=hst.ok;refine hok o rfl E.Keep M ρ a w (fun k m hk=>h2 k m (hlm k m hk).1 (hlm k m hk).2) hI.mem h3 (fun hp m hm=>?_) hev
   ·obtain ⟨v,hv⟩:=(hI.mem.rel _ m hm).name;have hlt:(T j).nk < qV (T j).nk (md j):=by cases hmd:md j <;> simp [hmd,zfY] at hp <;> simp [qV]
    rw [h3 _ (Nat.le_refl _) hlt] at hv;cases hv
  refine .inl (hdo.wp fun v w' ha=>?_);obtain ⟨M',ρ',h⟩:=hI.after hlex ho hj hedges ha;exact hK _ _ _ _ h
 ·simp only [hrun,Bool.false_eq_true,if_false];have ha:zE E.Keep M ρ w (T j).nk (s j) (md j) undef w:=by rw [hs,hm];exact j5 hI.mem
  obtain ⟨M',ρ',h⟩:=hI.after hlex ho hj hedges ha;exact hK _ _ _ _ h
theorem vl{ops:List Oper}{listed:Array Bool}{i:Nat}:i∈Region.ready .any ops.toArray listed↔
  ∃o,ops[i]? =some o/\listed.getD i true=false/\∀e∈o.after,Region.binds .any e=true->listed.getD e.on false=true:=by
 unfold Region.ready;simp only [List.mem_filter,List.mem_range,List.size_toArray,Bool.and_eq_true,Bool.not_eq_true'];constructor
 ·rintro ⟨h1,h2,h3⟩
  have ho:=List.getElem?_eq_getElem h1;refine ⟨_,ho,h2,fun e he hb=>?_⟩;rw [List.getElem?_toArray,ho] at h3;simp only [Option.map_some,Option.getD_some] at h3;have:=Array.all_eq_true_iff_forall_mem.1 h3 e he
  simpa [hb] using this
 ·rintro ⟨o,ho,h2,h3⟩
  refine ⟨(List.getElem?_eq_some_iff.1 ho).1,h2,?_⟩;rw [List.getElem?_toArray,ho];simp only [Option.map_some,Option.getD_some];refine Array.all_eq_true_iff_forall_mem.2 fun e he=>?_
  cases hb:Region.binds .any e with
  | false=>rfl
  | true=>simpa using h3 e he hb
theorem zfo (hlex:Lex P all E σ0 T s md run svs U) {Q:Exit->Act->World->Prop}
  (hQ:∀D M ρ a w,(∀i,i < all.length->D i)->Inv all E σ0 T md D M ρ a w->Q .normal a w):∀(fuel:Nat) (listed:Array Bool) (M:List (Nat×Mem)) (ρ:zd) (a:Act) (w:World),
  listed.size=all.length->listed.toList.count false<=fuel->Inv all E σ0 T md (fun i=>listed.getD i false=true) M ρ a w->wpAny P .any all.toArray Q fuel listed a w:=by
 have hlt:=hlex.edges
 have hdone:∀(listed:Array Bool),listed.size=all.length->Region.ready .any all.toArray listed=[]->∀i,i < all.length->listed.getD i false=true:=fun listed hsz hn i=>by
  induction i using Nat.strongRecOn with
  | _ i ih=>
   intro hi
   cases hb:listed.getD i false with
   | true=>rfl
   | false=>
    have ho:=List.getElem?_eq_getElem hi
    have:i∈Region.ready .any all.toArray listed:=vl.2 ⟨_,ho,by
     have hi':i < listed.size:=oM
     simp [Array.getD,hi'] at hb ⊢;exact hb,fun e he hbind=>by
      have:=hlt i _ ho e he hbind
      exact ih e.on this oM⟩
    rw [hn] at this;cases this
 intro fuel
 induction fuel with
 | zero=>
  intro listed M ρ a w hsz hc hI
  have hall:∀i,i < all.length->listed.getD i false=true:=fun i hi=>by
   have hi':i < listed.size:=oM
   cases hb:listed.getD i false with
   | true=>rfl
   | false=>
    have:false∈listed.toList:=by
     simp [Array.getD,hi'] at hb;rw [← hb];simp
    have:=List.count_pos_iff.2 this;omega
  refine ⟨?_,hQ _ _ _ _ _ hall hI⟩
  cases hr:Region.ready .any all.toArray listed with
  | nil=>rfl
  | cons i r=>
   have hi:i∈Region.ready .any all.toArray listed:=by rw [hr];exact .head _
   obtain ⟨o,ho,h2,_⟩:=vl.1 hi;have hil:=(List.getElem?_eq_some_iff.1 ho).1;have h3:=hall i hil;have hi':i < listed.size:=oM;simp [Array.getD,hi'] at h2 h3;rw [h2] at h3;cases h3
 | succ fuel ih=>
  intro listed M ρ a w hsz hc hI;refine ⟨fun hn=>hQ _ _ _ _ _ (hdone listed hsz hn) hI,fun j hj=>?_⟩;obtain ⟨o,ho,h2,h3⟩:=vl.1 hj;have hjl:=(List.getElem?_eq_some_iff.1 ho).1;have hj':j < listed.size:=oM;have hjf:listed[j]=false:=by simpa [Array.getD,hj'] using h2
  refine hI.step hlex ho (by simp [Array.getD,hj',hjf]) h3 fun M' ρ' a' w' hI'=>ih _ M' ρ' a' w' (by simpa using hsz) ?_ ?_
  ·have hmem:false∈listed.toList:=by rw [← hjf];simp
   have hpos:=List.count_pos_iff.2 hmem
   have:(listed.setIfInBounds j true).toList.count false=listed.toList.count false - 1:=by
    rw [Array.toList_setIfInBounds,List.count_set (by simpa using hj')];simp [hjf]
   omega
  ·have:(fun i=>(listed.setIfInBounds j true).getD i false=true)=fun i=>i=j∨listed.getD i false=true:=by
    funext i
    apply propext
    by_cases e:j=i
    ·subst e;simp [Array.getD,hj']
    ·simp only [Array.getD_eq_getD_getElem?,Array.getElem?_setIfInBounds_ne e];constructor
     ·exact .inr
     ·rintro (h | h)
      ·exact absurd h.symm e
      ·exact h
   rw [this];exact hI'
end lex
theorem zby {P:Program} {E:Env} {Q:Exit->Act->World->Prop} {K:St->Prop} {ops:Array Oper} {σ:St} {ρ:zd} {a:Act} {w:World}
  (hr:Rel E σ ρ a w) (hlex0:∀w,Rel E σ ρ a w->∃T s md run svs U,Lex P ops.toList E σ T s md run svs U/\K (T ops.toList.length)) (hQ:∀σ ρ a w,K σ->Rel E σ ρ a w->Q .normal a w):wpAny P .any ops Q ops.size (Array.replicate ops.size false) a { w with drawn:=w.drawn+1 }:=by
 have hd:Stp (Own σ.M ρ) (Own σ.M ρ) ρ ρ w { w with drawn:=w.drawn+1 }:=⟨rfl,rfl,⟨rfl,fun _=>rfl⟩,Nat.le_refl _,fun _ _ _=>rfl,fun _ h=>.inl h,fun _ _ h=>h⟩
 have hr1:Rel E σ ρ a { w with drawn:=w.drawn+1 }:=
  ⟨hr.size,hr.defers,fun t s hl=>⟨(hr.regs t s hl).1,(hr.regs t s hl).2.stp hd⟩,⟨fun k m h=>(hr.mem.rel k m h).keep hd rfl (fun _ _ _ _=>rfl),hr.mem.keys,hr.mem.apart,hr.mem.old,hr.mem.kp,hr.mem.glS hd⟩,hr.fresh,hr.stp.trans hd,hr.keep,hr.low⟩
 obtain ⟨T,s,md,run,svs,U,hlex,hK⟩:=hlex0 _ hr1;have hsz:ops.size=ops.toList.length:=by simp
 have main:=zfo (Q:=Q) hlex (fun D M ρ' a' w' hD hI=>by
  have hn:=hlex.nt (j:=ops.toList.length) (Nat.le_refl _)
  have hin:∀x∈(T ops.toList.length).M,x∈M:=fun x hx=>by
   obtain ⟨k,m⟩:=x;exact zg (hI.keys k _ m (Nat.le_refl _) (fun i hi _=>⟨fun _=>hi,fun _=>hD i hi⟩) (zfn (hlex.pw _ (Nat.le_refl _)) hx))
  obtain ⟨hs,hmo⟩:=hI.mem.let_go (M1:=(T ops.toList.length).M) hin (hlex.pw _ (Nat.le_refl _))
  ·refine hQ (T ops.toList.length) ρ' a' w' hK ⟨hI.size.trans hn.1.symm,hI.defers,fun t sv hl=>?_,hmo,fun k hk=>?_,hI.stp.trans hs,hr.keep,fun k v hv=>hn.2 ▸ hr.low k v hv⟩
   ·obtain ⟨h1,h2⟩:=hI.regs t ops.toList.length sv (Nat.le_refl _) (fun i o hi _=>⟨fun _=>(List.getElem?_eq_some_iff.1 hi).1,fun h=>hD i h⟩) hl;exact ⟨hn.1.symm ▸ h1,h2.stp hs⟩
   ·cases hq:ρ' k with
    | none=>rfl
    | some v=>
     exfalso
     rcases hI.names k v hq with h | ⟨i,_,h2,h3,h4⟩
     ·have h5:=hlex.nk_mono (i:=0) (j:=ops.toList.length) oM (Nat.le_refl _);have h6:(T 0).nk=σ.nk:=hlex.start.2.1;omega
     ·have:=hlex.nk_push h2 (Nat.le_refl _);omega)
  ops.size (Array.replicate ops.size false) σ.M ρ a { w with drawn:=w.drawn+1 } (by simp) (by simp)
  ⟨hr1.size,hr1.defers,fun i o hi=>by simp [Array.getD] at hi,hr1.mem,fun t j sv hj hag hl=>?_,fun k j m hj hag hl=>?_,fun k v hv=>.inl ?_,hr1.stp⟩
 ·simpa using main
 ·have hno:∀i o,0<=i->i < j->ops.toList[i]? =some o->o.dst≠some t:=fun i o _ h2 hi hd=>by
   have:=(hag i o hi hd).2 h2;simp [Array.getD] at this
  obtain ⟨s1,hl1,hi1⟩:=hlex.look_chain (j0:=0) (Nat.zero_le _) hj hno hl;obtain ⟨s2,hl2,hi2⟩:=hlex.start.2.2.2.2 t s1 hl1;exact ⟨(hr1.regs t s2 hl2).1,hi1 _ _ _ _ _ (hi2 _ _ _ _ _ (hr1.regs t s2 hl2).2)⟩
 ·have hno:∀i,0<=i->i < j->¬zZ T md i k:=fun i _ h2 ht=>by
   have:=(hag i oM ht).2 h2;simp [Array.getD] at this
  rw [hlex.lookM_chain (j0:=0) (Nat.zero_le _) hj hno,hlex.start.1] at hl;exact hl
 ·by_cases hk:k < σ.nk
  ·exact hk
  ·rw [hr1.fresh k oM] at hv;cases hv
theorem Lex0.lex{P:Program}{all:List Oper}{E:Env}{σ0:St}{T:Nat->St}{s:Nat->SV}{md:Nat->MD}{run:Nat->Bool}{svs:Nat->List SV}(h:Lex0 P all E σ0 0 T s md run svs)(hord:jW all=true):
  Lex P all E σ0 T s md run svs (fun j k=>(∃o,all[j]? =some o/\yf o.op=true)/\k < (T j).nk):=by
 obtain ⟨hedges,hconf⟩:=zd2 hord
 have mdok:∀j o,all[j]? =some o->MdOK all j (T j).nk o.op (md j):=fun j o ho=>by
  rcases h.step j o (Nat.zero_le _) ho with ⟨_,hs⟩ | ⟨_,_,hm⟩
  ·exact hs.md rfl
  ·exact .inr (.inl hm)
 have nk_next:∀j,j < all.length->(T (j+1)).nk=qV (T j).nk (md j):=fun j hj=>(h.next j _ (Nat.zero_le _) (List.getElem?_eq_getElem hj)).2.1
 have nk_mono:∀i j,i<=j->j<=all.length->(T i).nk<=(T j).nk:=by
  intro i j
  induction j with
  | zero=>
    intro hij _;have:i=0:=oM;subst this;exact Nat.le_refl _
  | succ j ih=>
   intro hij hj
   by_cases e:i=j+1
   ·subst e;exact Nat.le_refl _
   ·have:=ih oM oM;rw [nk_next j oM];exact Nat.le_trans this (zeD _ _)
 have nk_lt:∀i j k,i < j->j<=all.length->zZ T md i k->k < (T j).nk:=fun i j k hij hj ht=>by
  have h1:=nk_mono (i+1) j oM hj;rw [nk_next i oM] at h1;have ho:=List.getElem?_eq_getElem (show i < all.length by omega);unfold zZ at ht
  rcases mdok i _ ho with ⟨_,⟨hd,hgv⟩,hk⟩ | hm | ⟨⟨m',hm⟩,_⟩
  ·cases hmd:md i <;> simp only [hmd] at ht h1 <;> simp only [qV] at h1
   ·omega
   ·have:=hk _ _ (.inl hmd);omega
   ·exact absurd hmd (hd _)
   ·have:=hk _ _ (.inr hmd);omega
   ·rw [hmd] at hgv;cases hgv
  ·rw [hm] at ht;exact ht.elim
  ·rw [hm] at ht h1;simp only [qV] at h1;have ht:k=(T i).nk:=ht;omega
 have wu:∀op:Op,isW op=true->yf op=true/\yo op=true:=fun op hW=>by
  cases op <;> first | exact ⟨rfl,rfl⟩ | (simp [isW,zfV] at hW;done) | exact ⟨rfl,by simpa [isW,yo] using hW⟩
 have fwd:∀i j oi oj k,i < j->all[i]? =some oi->all[j]? =some oj->zZ T md i k->yf oj.op=true->Anc all j i:=fun i j oi oj k hij hi hj ht hu=>by
  rcases mdok i oi hi with ⟨hW,_⟩ | hm | ⟨⟨m',hm⟩,hmt⟩
  ·exact hconf i j oi oj hij hi hj (by unfold zfd;simp [(wu _ hW).2,hu])
  ·unfold zZ at ht;rw [hm] at ht;exact ht.elim
  ·rcases hmt with hmt | hmt
   ·exact hconf i j oi oj hij hi hj (by unfold zfd;simp [hmt,hu])
   ·exact zfm hmt j oj hij hj hu
 refine ⟨h.start,fun j o ho=>h.next j o (Nat.zero_le _) ho,fun j o ho=>h.dst j o (Nat.zero_le _) ho,fun j o ho=>h.guard j o (Nat.zero_le _) ho,fun j o ho=>?_,fun j hj=>h.pw j (Nat.zero_le _) hj,fun j o ho=>?_,hedges,
  fun i j oi oj hij hi hj hc=>hconf i j oi oj hij hi hj ?_,fun i j hij hjl k hk=>?_⟩
 ·rcases h.step j o (Nat.zero_le _) ho with ⟨hr,hs⟩ | hs
  ·refine .inl ⟨hr,⟨_,hs.ok,fun k m hk=>?_⟩,hs.ev⟩
   split at hk
   ·rename_i hu;exact ⟨⟨⟨o,ho,hu⟩,(q9 hk).1⟩,(q9 hk).2⟩
   ·cases hk
  ·exact .inr hs
 ·rcases mdok j o ho with ⟨_,⟨_,hgv⟩,_⟩ | hm | ⟨⟨m',hm⟩,_⟩
  ·cases hmd:md j <;> first | trivial | (rw [hmd] at hgv;cases hgv)
  ·rw [hm];trivial
  ·rw [hm];trivial
 ·unfold zaj at hc;unfold zfd;simp only [Bool.or_eq_true] at hc ⊢
  rcases hc with (hc | hc) | hc
  ·exact .inl (.inl (.inr hc))
  ·exact .inl (.inr hc)
  ·exact .inr hc
 ·have hi:=List.getElem?_eq_getElem (show i < all.length by omega);have hj:=List.getElem?_eq_getElem hjl
  have back:zZ T md j k->k < (T j).nk->yf (all[j]).op=true/\isW (all[j]).op=true:=fun ht hk=>by
   rcases mdok j _ hj with ⟨hW,_⟩ | hm | ⟨⟨m',hm⟩,_⟩
   ·exact ⟨(wu _ hW).1,hW⟩
   ·unfold zZ at ht;rw [hm] at ht;exact ht.elim
   ·unfold zZ at ht;rw [hm] at ht;have ht:k=(T j).nk:=ht;omega
  rcases hk with ⟨ht,hu | ht2⟩ | ⟨⟨⟨oi,hoi,hu⟩,hkl⟩,ht2⟩
  ·obtain ⟨⟨oj,hoj,hu⟩,_⟩:=hu;exact fwd i j _ oj k hij hi hoj ht hu
  ·exact fwd i j _ _ k hij hi hj ht (back ht2 (nk_lt i j k hij oM ht)).1
  ·have hW:=(back ht2 (Nat.lt_of_lt_of_le hkl (nk_mono i j oM oM))).2;exact hconf i j oi _ hij hoi hj (by unfold zfd;simp [hu,hW])
theorem zc9 {P:Program} {Γ:List (TypeId×TI)} (hT:TOK P Γ) {E:Env} {Q:Exit->Act->World->Prop} {K:St->Prop} {ops:Array Oper} {σ:St} {ρ:zd} {a:Act} {w:World}
  (hr:Rel E σ ρ a w) (hord:jW ops.toList=true) (h:jy P Γ true ops.toList ops.toList 0 σ K) (hQ:∀σ ρ a w,K σ->Rel E σ ρ a w->Q .normal a w):wpAny P .any ops Q ops.size (Array.replicate ops.size false) a { w with drawn:=w.drawn+1 }:=
 zby hr (fun w hr=>by
  obtain ⟨T,s,md,run,svs,hlex,hK⟩:=zaC hT ops.toList 0 σ ρ a w (by simp) (fun j=>by simp) hr h
  exact ⟨T,s,md,run,svs,_,hlex.lex hord,hK⟩) hQ
theorem zd3 {P:Program} {Γ:List (TypeId×TI)} (hT:TOK P Γ) (hm:P.follows .mixedOrders=true) {E:Env} {Q:Exit->Act->World->Prop} {K:St->Prop} {id:Nat} {ops:Array Oper} {σ:St} {ρ:zd} {a:Act} {w:World}
  (hr:Rel E σ ρ a w) (hord:jW ops.toList=true) (h:jy P Γ true ops.toList ops.toList 0 σ K) (hQ:∀σ ρ a w,K σ->Rel E σ ρ a w->Q .normal a w):(Code.region id ops true).wp P Q a w:=
 wp_region_any hm (zc9 hT hr hord h hQ)
theorem zfp{all:List Oper}(h:vc all=true):(∀(j:Nat) (o:Oper),all[j]? =some o->∀e∈o.after,Region.binds .any e=true->e.on < j)/\
  ∀(i j:Nat) (oi oj:Oper),i < j->all[i]? =some oi->all[j]? =some oj->zaj all oi oj=true->Anc all j i:=by
 unfold vc at h;simp only [Bool.and_eq_true] at h;obtain ⟨h1,h2⟩:=h;refine ⟨fun j o ho e he hb=>?_,fun i j oi oj hij hi hj hc=>?_⟩
 ·have hjl:j < all.length:=(List.getElem?_eq_some_iff.1 ho).1;have:=List.all_eq_true.1 h1 j (List.mem_range.2 hjl);simp only [ho] at this;have:=List.all_eq_true.1 this e (by simpa using he);simp only [hb,Bool.not_true,Bool.false_or] at this;exact Nat.le_of_ble_eq_true this
 ·have hjl:j < all.length:=(List.getElem?_eq_some_iff.1 hj).1;have:=List.all_eq_true.1 h2 j (List.mem_range.2 hjl);have:=List.all_eq_true.1 this i (List.mem_range.2 hij);simp only [hi,hj,hc,Bool.not_true,Bool.or_false] at this;exact uI all all.length j i hjl this
theorem zd4{T:Nat->St}{md:Nat->MD}{i k:Nat}(h:zZ T md i k):yY k (vb (T i).nk (md i))=true:=by
 unfold zZ at h;have one:∀x:Nat,k=x->∀l,yY k (x::l)=true:=fun x e l=>by subst e;simp [yY,Nat.beq_refl]
 have two:∀x l,yY k l=true->yY k (x::l)=true:=fun x l e=>by simp only [yY];split <;> simp_all
 cases hm:md i <;> simp only [hm] at h
 ·exact one _ h _
 ·exact one _ h _
 ·exact one _ h _
 ·rcases h with h | h
  ·exact one _ h _
  ·exact two _ _ (one _ h _)
 ·have mem:∀{l:List Nat},k∈l->yY k l=true:=fun {l} hl=>by
   induction l with
   | nil=>cases hl
   | cons x r ih=>
    cases hl with
    | head=>exact one _ rfl _
    | tail _ h=>exact two _ _ (ih h)
  have rng:∀n:Nat,(T i).nk<=k->k < (T i).nk+n->k∈zdP (T i).nk n:=fun n=>by
   induction n with
   | zero=>intro h1 h2;omega
   | succ n ih=>
    intro h1 h2
    by_cases e:k=(T i).nk+n
    ·subst e;exact .head _
    ·exact .tail _ (ih h1 oM)
  refine mem (List.mem_append.2 ?_)
  rcases h with h | ⟨h1,h2⟩
  ·exact .inl h
  ·exact .inr (rng _ h1 h2)
theorem zaF{e:Ent}{k:Nat}:∀{l:List Nat},yY k l=true->(yx e.u e.nk k=true∨yY k e.t=true)->zet e l=true
 | [],h,_=>by cases h
 | x::r,h,hc=>by
  simp only [yY] at h;simp only [zet]
  split at h
  ·rename_i hb;have:=Nat.eq_of_beq_eq_true hb;subst this
   rcases hc with hc | hc
   ·simp [hc]
   ·simp only [hc];split <;> rfl
  ·have:=zaF h hc;simp only [this]
   split
   ·rfl
   ·split <;> rfl
theorem zda{x:Ent}{k:Nat}:∀{l:List Nat},yY k l=true->yx x.u x.nk k=true->zeu x l=true
 | [],h,_=>by cases h
 | y::r,h,hc=>by
  simp only [yY] at h;simp only [zeu]
  split at h
  ·rename_i hb;have:=Nat.eq_of_beq_eq_true hb;subst this;simp [hc]
  ·have:=zda h hc;simp only [this]
   split <;> rfl
theorem zdb{m:Nat}{e:Ent}:∀{r:List Ent},prOK m e r=true->∀(i:Nat) (x:Ent),i < r.length->r[r.length - 1 - i]? =some x->zcH x e=true->m.testBit i=true
 | [],_,i,x,hi,_,_=>by simp at hi
 | y::r,h,i,x,hi,hx,hc=>by
  simp only [prOK,Bool.and_eq_true,Bool.or_eq_true,Bool.not_eq_true'] at h;simp only [List.length_cons] at hi hx
  by_cases e1:i=r.length
  ·subst e1;simp at hx;subst hx
   rcases h.1 with h | h
   ·exact h
   ·rw [hc] at h;cases h
  ·have:r.length+1 - 1 - i=(r.length - 1 - i)+1:=by omega
   rw [this,List.getElem?_cons_succ] at hx;exact zdb h.2 i x oM hx hc
theorem zaG{ms:List Nat}:∀{A:List Ent},zai ms A=true->∀(i j:Nat) (x e:Ent),i < j->j < A.length->A[A.length - 1 - i]? =some x->A[A.length - 1 - j]? =some e->zcH x e=true->(ms.getD j 0).testBit i=true
 | [],_,i,j,x,e,_,hj,_,_,_=>by simp at hj
 | y::r,h,i,j,x,e,hij,hj,hx,he,hc=>by
  simp only [zai,Bool.and_eq_true] at h;simp only [List.length_cons] at hj hx he;have hi:r.length+1 - 1 - i=(r.length - 1 - i)+1:=oM;rw [hi,List.getElem?_cons_succ] at hx
  by_cases e1:j=r.length
  ·subst e1;simp at he;subst he;exact zdb h.1 i x hij hx hc
  ·have:r.length+1 - 1 - j=(r.length - 1 - j)+1:=by omega
   rw [this,List.getElem?_cons_succ] at he;exact zaG h.2 i j x e hij oM hx he hc
theorem zbz{k:Nat}:∀{l:List Nat},zdJ k l=true->k∈l
 | [],h=>(by cases h)
 | x::r,h=>by
  simp only [zdJ] at h
  split at h
  ·rename_i hb;have:=Nat.eq_of_beq_eq_true hb;subst this;exact .head _
  ·exact .tail _ (zbz h)
theorem zbA{ks:List Nat}{κ nn:Nat}:∀{new:List (Nat×Mem)},newB ks κ nn new=true->∀k m,(k,m)∈new->k∈ks∨(κ<=k/\k < κ+nn)
 | [],_,k,m,h=>(by cases h)
 | (q,y)::r,hb,k,m,h=>by
  simp only [newB] at hb;obtain ⟨h1,h2⟩:=zu hb
  cases h with
  | head=>
   simp only [Bool.or_eq_true,Bool.and_eq_true] at h1
   rcases h1 with h1 | h1
   ·exact .inl (zbz h1)
   ·exact .inr ⟨Nat.le_of_ble_eq_true h1.1,by simpa using h1.2⟩
  | tail _ h=>exact zbA h2 k m h
theorem vA{k:Nat}:∀{new:List (Nat×Mem)},zbV k new=true->∃m,(k,m)∈new
 | [],h=>(by cases h)
 | (q,y)::r,h=>by
  simp only [zbV] at h
  split at h
  ·rename_i hb;have:=Nat.eq_of_beq_eq_true hb;subst this;exact ⟨y,.head _⟩
  ·obtain ⟨m,hm⟩:=vA h;exact ⟨m,.tail _ hm⟩
theorem vB{new:List (Nat×Mem)}{κ:Nat}:∀{n:Nat},zbW new κ n=true->∀k,κ<=k->k < κ+n->∃m,(k,m)∈new
 | 0,_,k,h1,h2=>oM
 | n+1,h,k,h1,h2=>by
  simp only [zbW] at h;obtain ⟨g1,g2⟩:=zu h
  by_cases e:k=κ+n
  ·subst e;exact vA g1
  ·exact vB g2 k h1 oM
theorem zf6{κ:Nat}{md:MD}{K:Prop}(h:mdD κ md K):K/\j6 κ md:=by
 unfold mdD at h
 split at h
 ·exact ⟨(zb h).2,trivial⟩
 ·exact ⟨(zb h).2,trivial⟩
 ·exact ⟨(zb h).2,trivial⟩
 ·obtain ⟨h1,h2⟩:=zb h;obtain ⟨g1,g2⟩:=zu h1;exact ⟨h2,zbA g1,vB g2⟩
 ·refine ⟨h,?_⟩;rename_i hn
  cases md <;> first | trivial | exact absurd rfl (hn _ _ _)
theorem zdc{u:Option (List Nat)}{nk:Nat}{lm:Nat->Option Mem}{k:Nat}{m:Mem}(h:lmU u nk lm k=some m):yx u nk k=true/\lm k=some m:=by
 unfold lmU at h
 split at h
 ·exact ⟨‹_›,h⟩
 ·cases h
theorem zd5 {P:Program} {Γ:List (TypeId×TI)} (hT:TOK P Γ) {o:Oper} {σ:St} {K:Ent->St->Prop} {E:Env} {ρ:zd} {a:Act} {w:World}
  (hr:Rel E σ ρ a w) (h:jj P Γ o σ K):∃svs s md,K ⟨zcG o.op svs,σ.nk,vb σ.nk md⟩ (σ.app o.dst s md)/\zaD P o σ svs s md (fun k=>yx (zcG o.op svs) σ.nk k=true)/\(∀t,o.dst=some t->t < σ.nt)/\j6 σ.nk md:=by
 unfold jj at h;replace h:=uf h;obtain ⟨svs,h,hev⟩:=zaA h;have hg:=hev (a:=a) (fun t s _ hl=>(hr.regs t s hl).2);have hlm:∀k m,lmU (zcG o.op svs) σ.nk (uw σ.M σ.nk) k=some m->zl σ.M k=some m:=fun k m h=>(q9 (zdc h).2).2
 obtain ⟨s,md,hK,hok⟩:=vk hT ⟨E.Keep,σ.M,ρ,w,_,hlm,hr.mem,hg⟩ h;obtain ⟨hK,hmd⟩:=zf6 (yr (yq hK));obtain ⟨hd,hK⟩:=zis hK;exact ⟨svs,s,md,hK,⟨⟨_,hok,fun k m hk=>⟨(zdc hk).1,hlm k m hk⟩⟩,hev⟩,hd,hmd⟩
theorem zaD.does {P:Program} {o:Oper} {σ:St} {svs:List SV} {s:SV} {md:MD} {U:Nat->Prop} (h:zaD P o σ svs s md U) {E:Env} {ρ:zd} {a:Act} {w:World}
  (hr:Rel E σ ρ a w):zO P o a w (zE E.Keep σ.M ρ w σ.nk s md):=by
 obtain ⟨lm,hok,hlm⟩:=h.ok;exact hok o rfl E.Keep σ.M ρ a w (fun k m hk=>(hlm k m hk).2) hr.mem (fun k hk _=>hr.fresh k hk) (fun _=>hr.noKey) (h.ev fun t s _ hl=>(hr.regs t s hl).2)
theorem zfq {P:Program} {Γ:List (TypeId×TI)} (hT:TOK P Γ) {all:List Oper} {o:Oper} {r:List Oper} {i:Nat} {acc:List Ent} {σ:St} {K:St->Prop} {E:Env} {ρ:zd} {a:Act} {w:World}
  (hr:Rel E σ ρ a w) (h:js P Γ all (o::r) i acc σ K):∃σ' run svs s md e,js P Γ all r (i+1) (e::acc) (σ'.app o.dst s md) K/\kw all σ' o run/\
   (σ'=σ∨∃t s0 s1,ziv σ.L t=some s0/\(∀S Pm ρ w v,G S Pm ρ w s0 v->G S Pm ρ w s1 v)/\σ'=σ.put (some t) s1)/\(∀t,o.dst=some t->t < σ.nt)/\
   ((run=true/\zaD P o σ' svs s md (fun k=>yx e.u e.nk k=true)/\e.t=vb σ'.nk md)∨(run=false/\s=.val undef/\md=.none))/\j6 σ'.nk md:=by
 have run1:∀{σ':St},Rel E σ' ρ a w->jj P Γ o σ' (fun e σ=>js P Γ all r (i+1) (e::acc) σ K)->σ'.nt=σ.nt->∃svs s md e,js P Γ all r (i+1) (e::acc) (σ'.app o.dst s md) K/\(∀t,o.dst=some t->t < σ.nt)/\
   (zaD P o σ' svs s md (fun k=>yx e.u e.nk k=true)/\e.t=vb σ'.nk md)/\j6 σ'.nk md:=by
  intro σ' hr' h' hn;obtain ⟨svs,s,md,h1,h2,h3,h4⟩:=zd5 hT hr' h';exact ⟨svs,s,md,_,h1,fun t e=>hn ▸ h3 t e,⟨h2,rfl⟩,h4⟩
 simp only [js] at h
 split at h
 ·rename_i hg;obtain ⟨svs,s,md,e,h1,h2,h3,h4⟩:=run1 hr h rfl;exact ⟨σ,true,svs,s,md,e,h1,by simp [kw,hg],.inl rfl,h2,.inl ⟨rfl,h3⟩,h4⟩
 ·rename_i j want hg
  split at h
  ·exact h.elim
  ·rename_i t ht
   have gv:∀{σ':St} {v:Value},ziv σ'.L t=some (.val v)->kw all σ' o (zf3 v want):=fun hl=>by
    unfold kw;rw [hg];exact ⟨t,_,ht,hl,rfl⟩
   have gi:∀{σ':St} {b:Bool},ziv σ'.L t=some (.val (.bool b))->kw all σ' o (b==want):=fun hl=>gv hl
   have put_look:∀(s1:SV),ziv (σ.put (some t) s1).L t=some s1:=fun s1=>by
    show ziv ((t,s1)::σ.L) t=some s1;rw [kI];simp
   split at h
   ·rename_i hl
    split at h
    ·obtain ⟨svs,s,md,e,h1,h2,h3,h4⟩:=run1 hr h rfl;exact ⟨σ,_,svs,s,md,e,h1,gi hl,.inl rfl,h2,.inl ⟨rfl,h3⟩,h4⟩
    ·obtain ⟨hd,h⟩:=zis h;exact ⟨σ,_,[],_,_,_,h,gi hl,.inl rfl,hd,.inr ⟨rfl,rfl,rfl⟩,trivial⟩
   ·rename_i hl
    split at h
    ·obtain ⟨svs,s,md,e,h1,h2,h3,h4⟩:=run1 hr h rfl;exact ⟨σ,_,svs,s,md,e,h1,gi hl,.inl rfl,h2,.inl ⟨rfl,h3⟩,h4⟩
    ·obtain ⟨hd,h⟩:=zis h;exact ⟨σ,_,[],_,_,_,h,gi hl,.inl rfl,hd,.inr ⟨rfl,rfl,rfl⟩,trivial⟩
   ·rename_i p ip hl
    by_cases hp:p
    ·have hr':=hr.refine hl (yS hp)
     split at h
     ·obtain ⟨svs,s,md,e,h1,h2,h3,h4⟩:=run1 hr' (h.yes hp) rfl;exact ⟨_,_,svs,s,md,e,h1,gi (put_look _),.inr ⟨t,_,_,hl,yS hp,rfl⟩,h2,.inl ⟨rfl,h3⟩,h4⟩
     ·obtain ⟨hd,h⟩:=zis (h.yes hp);exact ⟨_,_,[],_,_,_,h,gi (put_look _),.inr ⟨t,_,_,hl,yS hp,rfl⟩,hd,.inr ⟨rfl,rfl,rfl⟩,trivial⟩
    ·have hr':=hr.refine hl (jD hp)
     split at h
     ·obtain ⟨hd,h⟩:=zis (h.no hp);exact ⟨_,_,[],_,_,_,h,gi (put_look _),.inr ⟨t,_,_,hl,jD hp,rfl⟩,hd,.inr ⟨rfl,rfl,rfl⟩,trivial⟩
     ·obtain ⟨svs,s,md,e,h1,h2,h3,h4⟩:=run1 hr' (h.no hp) rfl;exact ⟨_,_,svs,s,md,e,h1,gi (put_look _),.inr ⟨t,_,_,hl,jD hp,rfl⟩,h2,.inl ⟨rfl,h3⟩,h4⟩
   ·rename_i hl;obtain ⟨hd,h⟩:=zis h;exact ⟨σ,_,[],_,_,_,h,gv hl,.inl rfl,hd,.inr ⟨rfl,rfl,rfl⟩,trivial⟩
   ·exact h.elim
structure Lex1 (P:Program) (all:List Oper) (E:Env) (σ0:St) (i0:Nat) (T:Nat->St) (s:Nat->SV) (md:Nat->MD) (run:Nat->Bool) (svs:Nat->List SV) (ent:Nat->Ent):Prop where
 start:y8 (T i0) σ0
 next:∀(j:Nat) (o:Oper),i0<=j->all[j]? =some o->y8 (T (j+1)) ((T j).app o.dst (s j) (md j))
 dst:∀(j:Nat) (o:Oper),i0<=j->all[j]? =some o->∀t,o.dst=some t->t < σ0.nt
 guard:∀(j:Nat) (o:Oper),i0<=j->all[j]? =some o->kw all (T j) o (run j)
 step:∀(j:Nat) (o:Oper),i0<=j->all[j]? =some o->(run j=true/\zaD P o (T j) (svs j) (s j) (md j) (fun k=>yx (ent j).u (ent j).nk k=true)/\(ent j).t=vb (T j).nk (md j))∨
  (run j=false/\s j=.val undef/\md j=.none)
 pw:∀j:Nat,i0<=j->j<=all.length->(T j).M.Pairwise fun a b=>a.1≠b.1
 nodrop:∀(j:Nat) (o:Oper),i0<=j->all[j]? =some o->j6 (T j).nk (md j)
theorem vC{P:Program}{Γ:List (TypeId×TI)}(hT:TOK P Γ){all:List Oper}{E:Env}{K:St->Prop}:∀(l:List Oper) (i:Nat) (acc:List Ent) (σ:St) (ρ:zd) (a:Act) (w:World),i+l.length=all.length->
  (∀j:Nat,l[j]? =all[i+j]?)->acc.length=i->Rel E σ ρ a w->js P Γ all l i acc σ K->∃T s md run svs ent A,Lex1 P all E σ i T s md run svs ent/\K (T all.length)/\zai (jx all all.length) A=true/\
   A.length=all.length/\(∃B,A=B++acc)/\∀j:Nat,i<=j->j < all.length->A[all.length - 1 - j]? =some (ent j)
 | [],i,acc,σ,ρ,a,w,hlen,hl,hacc,hr,h=>by
  have hi:i=all.length:=by simpa using hlen
  subst hi;refine ⟨fun _=>σ,fun _=>.junk,fun _=>.none,fun _=>false,fun _=>[],fun _=>zbm,acc,⟨.refl,?_,?_,?_,?_,fun _ _ _=>hr.mem.keys,?_⟩,h.go,h.ob,hacc,⟨[],rfl⟩,fun j h1 h2=>by omega⟩ <;>
  ·intro j o hj ho;have:=(List.getElem?_eq_some_iff.1 ho).1;omega
 | o::r,i,acc,σ,ρ,a,w,hlen,hl,hacc,hr,h=>by
  have h0:all[i]? =some o:=by simpa using (hl 0).symm
  obtain ⟨σ',run0,svs0,s0,md0,e0,h1,hg,href,hd,hrun,hnd⟩:=zfq hT hr h
  have hr':Rel E σ' ρ a w:=by
   rcases href with rfl | ⟨t,s0,s1,h2,h3,rfl⟩
   ·exact hr
   ·exact hr.refine h2 h3
  have hnt:σ'.nt=σ.nt:=by rcases href with rfl | ⟨t,s0,s1,h2,h3,rfl⟩ <;> rfl
  have href':y8 σ' σ:=by
   rcases href with rfl | ⟨t,s2,s1,h2,h3,rfl⟩
   ·exact .refl
   ·refine ⟨rfl,rfl,rfl,rfl,fun t' s' hl'=>?_⟩;have hl':(if t=t' then some s1 else ziv σ.L t')=some s':=by rw [← kI];exact hl'
    by_cases e:t=t'
    ·subst e;rw [if_pos rfl] at hl';cases hl'
     exact ⟨s2,h2,h3⟩
    ·rw [if_neg e] at hl';exact ⟨s',hl',fun _ _ _ _ _ h=>h⟩
  have hnext:∃ρ1 a1 w1,Rel E (σ'.app o.dst s0 md0) ρ1 a1 w1:=by
   rcases hrun with ⟨_,hst,_⟩ | ⟨_,rfl,rfl⟩
   ·obtain ⟨v,w1,ha⟩:=(hst.does hr').ex;obtain ⟨ρ1,hr1⟩:=hr'.app (fun t e=>hnt ▸ hd t e) ha;exact ⟨ρ1,_,w1,hr1⟩
   ·obtain ⟨ρ1,hr1⟩:=hr'.app (fun t e=>hnt ▸ hd t e) (j5 hr'.mem);exact ⟨ρ1,_,w,hr1⟩
  obtain ⟨ρ1,a1,w1,hr1⟩:=hnext;obtain ⟨T,s,md,run,svs,ent,A,hlex,hK,hA,hAl,⟨B,hB⟩,hAe⟩:=vC hT r (i+1) (e0::acc) _ ρ1 a1 w1 (by simp at hlen;omega) (fun j=>by have:=hl (j+1);simpa [Nat.add_assoc,Nat.add_comm 1 j] using this) (by simp [hacc]) hr1 h1;have hapn:(σ'.app o.dst s0 md0).nt=σ.nt:=hnt;have hil:i < all.length:=(List.getElem?_eq_some_iff.1 h0).1
  refine ⟨fun j=>if j=i then σ' else T j,fun j=>if j=i then s0 else s j,fun j=>if j=i then md0 else md j,fun j=>if j=i then run0 else run j,fun j=>if j=i then svs0 else svs j,fun j=>if j=i then e0 else ent j,A,
   ⟨by simpa using href',?_,?_,?_,?_,?_,?_⟩,by simpa [show all.length≠i by omega] using hK,hA,hAl,⟨B++[e0],by simp [hB]⟩,?_⟩
  ·intro j oj hj ho
   by_cases e:j=i
   ·subst e;rw [h0] at ho;cases ho
    simpa using hlex.start
   ·have:=hlex.next j oj oM ho
    simpa [e,show j+1≠i by omega] using this
  ·intro j oj hj ho t ht
   by_cases e:j=i
   ·subst e;rw [h0] at ho;cases ho
    exact hd t ht
   ·exact hapn ▸ hlex.dst j oj oM ho t ht
  ·intro j oj hj ho
   by_cases e:j=i
   ·subst e;rw [h0] at ho;cases ho
    simpa using hg
   ·simpa [e] using hlex.guard j oj oM ho
  ·intro j oj hj ho
   by_cases e:j=i
   ·subst e;rw [h0] at ho;cases ho
    simpa using hrun
   ·simpa [e] using hlex.step j oj oM ho
  ·intro j hj hjl
   by_cases e:j=i
   ·subst e
    simpa using hr'.mem.keys
   ·simpa [e] using hlex.pw j oM hjl
  ·intro j oj hj ho
   by_cases e:j=i
   ·subst e
    simpa using hnd
   ·simpa [e] using hlex.nodrop j oj oM ho
  ·intro j hj hjl
   by_cases e:j=i
   ·subst e
    have hBl:B.length=all.length - 1 - j:=by
     have:=congrArg List.length hB;simp [hAl,hacc] at this;omega
    simp only [if_true];rw [hB,List.getElem?_append_right oM,hBl];simp
   ·simpa [e] using hAe j oM hjl
theorem zcj {P:Program} {Γ:List (TypeId×TI)} (hT:TOK P Γ) {E:Env} {Q:Exit->Act->World->Prop} {K:St->Prop} {ops:Array Oper} {σ:St} {ρ:zd} {a:Act} {w:World}
  (hr:Rel E σ ρ a w) (hord:vc ops.toList=true) (h:js P Γ ops.toList ops.toList 0 [] σ K) (hQ:∀σ ρ a w,K σ->Rel E σ ρ a w->Q .normal a w):wpAny P .any ops Q ops.size (Array.replicate ops.size false) a { w with drawn:=w.drawn+1 }:=
 zby hr (fun w hr=>by
  obtain ⟨T,s,md,run,svs,ent,A,hlex,hK,hA,hAl,_,hAe⟩:=vC hT ops.toList 0 [] σ ρ a w (by simp) (fun j=>by simp) rfl hr h;obtain ⟨hedges,hslot⟩:=zfp hord
  refine ⟨T,s,md,run,svs,fun j k=>yx (ent j).u (ent j).nk k=true/\run j=true,⟨hlex.start,fun j o ho=>hlex.next j o (Nat.zero_le _) ho,fun j o ho=>hlex.dst j o (Nat.zero_le _) ho,fun j o ho=>hlex.guard j o (Nat.zero_le _) ho,
   fun j o ho=>?_,fun j hj=>hlex.pw j (Nat.zero_le _) hj,fun j o ho=>hlex.nodrop j o (Nat.zero_le _) ho,hedges,hslot,fun i j hij hjl k hk=>?_⟩,hK⟩
  ·rcases hlex.step j o (Nat.zero_le _) ho with ⟨h1,h2,_⟩ | h1
   ·obtain ⟨lm,h3,h4⟩:=h2.ok;exact .inl ⟨h1,⟨lm,h3,fun k m hk=>⟨⟨(h4 k m hk).1,h1⟩,(h4 k m hk).2⟩⟩,h2.ev⟩
   ·exact .inr h1
  ·have tch:∀q:Nat,q < ops.toList.length->zZ T md q k->yY k (ent q).t=true:=fun q hq ht=>by
    rcases hlex.step q _ (Nat.zero_le _) (List.getElem?_eq_getElem hq) with ⟨_,_,h3⟩ | ⟨_,_,h3⟩
    ·rw [h3];exact zd4 ht
    ·unfold zZ at ht;rw [h3] at ht;exact ht.elim
   have hc:zcH (ent i) (ent j)=true:=by
    unfold zcH
    rcases hk with ⟨ht,hu | ht2⟩ | ⟨hu,ht2⟩
    ·rw [zaF (tch i oM ht) (.inl hu.1)]
    ·rw [zaF (tch i oM ht) (.inr (tch j hjl ht2))]
    ·rw [zda (tch j hjl ht2) hu.1];split <;> rfl
   have h1:=hAe i (Nat.zero_le _) oM;have h2:=hAe j (Nat.zero_le _) hjl;rw [← hAl] at h1 h2
   exact uI _ _ j i hjl (zaG hA i j _ _ hij oM h1 h2 hc)) hQ
theorem zdd {P:Program} {Γ:List (TypeId×TI)} (hT:TOK P Γ) (hm:P.follows .mixedOrders=true) {E:Env} {Q:Exit->Act->World->Prop} {K:St->Prop} {id:Nat} {ops:Array Oper} {σ:St} {ρ:zd} {a:Act} {w:World}
  (hr:Rel E σ ρ a w) (hord:vc ops.toList=true) (h:js P Γ ops.toList ops.toList 0 [] σ K) (hQ:∀σ ρ a w,K σ->Rel E σ ρ a w->Q .normal a w):(Code.region id ops true).wp P Q a w:=
 wp_region_any hm (zcj hT hr hord h hQ)
end Go.Gs
