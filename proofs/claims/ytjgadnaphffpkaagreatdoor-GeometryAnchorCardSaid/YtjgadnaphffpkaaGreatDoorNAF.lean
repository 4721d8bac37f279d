/- One operation upon an abstract state; a region in the order of its text. -/
import Derived.Test.YtjgadnaphffpkaaGreatDoorNA
import Derived.Test.YtjgadnaphffpkaaGreatDoorNAE
import Derived.Deep.LoopGhost
import Derived.Scope
set_option maxRecDepth 100000
set_option maxHeartbeats 8000000
set_option linter.all false
namespace Go.Gs
section
variable{L:List (Nat×SV)}
theorem zeh{x:Operand}{K:SV->Prop}(h:ev L x K):
  ∃s,K s/\∀{S Pm:Nat->Prop} {ρ:zk} {a:Act} {w:World},(∀t s,x=.tmp t->qe L t=some s->G S Pm ρ w s (a.tmps.getD t undef))->G S Pm ρ w s (a.eval x):=by
 unfold ev at h
 split at h
 ·split at h
  ·rename_i t _ s hs;exact⟨s,qJ h,λhr=>hr _ _ rfl hs⟩
  ·exact h.elim
 ·exact⟨_,qJ h,λ_=>.d _ _ (.val _)⟩
 ·exact⟨_,h,λ_=>.fn _ [] [] rfl λj s v h=>by simp at h⟩
 ·exact h.elim
theorem zfY{L:List (Nat×SV)}:∀{xs:List Operand} {K:List SV->Prop},evs L xs K->
  ∃svs,K svs/\∀{S Pm:Nat->Prop} {ρ:zk} {a:Act} {w:World},(∀t s,t∈zg0 xs->qe L t=some s->G S Pm ρ w s (a.tmps.getD t undef))->Gs S Pm ρ w svs (xs.map a.eval)
 | [],K,h=>⟨[],h,λ_=>.nil⟩
 | x::xs,K,h=>by
  obtain⟨s,h,h1⟩:=zeh h;obtain⟨svs,h,h2⟩:=zfY h;refine⟨s::svs,h,λhr=>.cons (h1 λt s e hl=>hr t s ?_ hl) (h2 λt s ht hl=>hr t s ?_ hl)⟩
  ·subst e;exact .head _
  ·cases x <;> first | exact .tail _ ht | exact ht
variable{M:List (Nat×Mem)}{κ:Nat}{m:Mem}
theorem za1{k:Nat}(h:zdg M κ k=some m):k < κ/\zX M k=some m:=by
 unfold zdg at h
 split at h
 ·rename_i hb;exact⟨Xw hb,h⟩
 ·cases h
variable{K:Prop}
theorem qK{d:Option Tmp}{nt:Nat}(h:zlz d nt K):(∀t,d=some t->t < nt)/\K:=by
 unfold zlz at h
 split at h
 ·obtain⟨h1,h2⟩:=zi h;exact⟨λt e=>by cases e;exact Xw h1,h2⟩
 ·exact⟨λt e=>(by cases e),h⟩
def zBF:MD->Bool
 | .give _ _ _=>true
 | _=>false
def MdOK(all:List Oper)(i κ:Nat)(op:Op)(md:MD):Prop:=
 (isW op=true/\((∀k,md≠.drop k)/\zBF md=false)/\∀k m,(md=.set k m∨md=.repl k m)->k < κ)∨md=.none∨((∃m,md=.push m)/\(zdh op=true∨zm8 all i=true))
variable{draw:Bool}{all:List Oper}{i:Nat}{md:MD}
theorem zo0{op:Op}(h:mdV draw all i κ op md K):K/\(draw=true->MdOK all i κ op md):=by
 unfold mdV at h
 split at h
 ·exact⟨h,λe=>by cases e⟩
 ·split at h
  ·rename_i hw
   split at h
   ·exact h.elim
   ·obtain⟨h1,h2⟩:=zi h;exact⟨h2,λ_=>.inl ⟨hw,⟨λk e=>(by cases e),rfl⟩,λk m e=>by rcases e with e | e <;> cases e;exact Xw h1⟩⟩
   ·obtain⟨h1,h2⟩:=zi h;exact⟨h2,λ_=>.inl ⟨hw,⟨λk e=>(by cases e),rfl⟩,λk m e=>by rcases e with e | e <;> cases e;exact Xw h1⟩⟩
   ·exact h.elim
   ·rename_i hn hn1 hn2 hn3;exact⟨h,λ_=>.inl ⟨hw,⟨λk e=>hn k e,by cases md <;> first | rfl | exact absurd rfl (hn3 _ _ _)⟩,λk m e=>e.elim (λe=>absurd e (hn1 k m)) (λe=>absurd e (hn2 k m))⟩⟩
  ·split at h
   ·exact⟨h,λ_=>.inr (.inl rfl)⟩
   ·split at h
    ·exact⟨h,λ_=>.inr (.inr ⟨⟨_,rfl⟩,.inl ‹_›⟩)⟩
    ·rcases h with⟨ho,hg⟩ | h
     ·exact⟨hg,λ_=>.inr (.inr ⟨⟨_,rfl⟩,.inr ho⟩)⟩
     ·exact h.elim
   ·exact h.elim
theorem zzr{P:Program}{Γ:List (TypeId×TI)}{op:Op}{svs:List SV}{lm lm':Nat->Option Mem}{κ:Nat}{K:SV->MD->Prop}(hu:zc2 op=false)(h:opV P Γ op svs lm κ K):opV P Γ op svs lm' κ K:=by
 cases op <;> first | (simp[zc2]at hu;done) | (rcases svs with _ | ⟨_,_ | ⟨_,_ | ⟨_,_ | _⟩⟩⟩ <;> exact h)
variable{P:Program}{a:Act}{w:World}
theorem qH.ex{o:Oper}{R:Value->World->Prop}(h:qH P o a w R):∃v w',R v w':=by
 unfold qH Oper.wp at h;generalize (execOp a.eval o).run P w=r at*
 cases r with
 | ok n w'=>
  cases n <;> simp only[Oper.upon]at h
  case value v=>obtain⟨u,e,hr⟩:=h;exact⟨u,w',hr⟩
  case skip=>obtain⟨u,e,hr⟩:=h;exact⟨u,w',hr⟩
  case defer d=>obtain⟨u,e,hr⟩:=h;exact⟨u,w',hr⟩
  case enter f args=>
   obtain⟨e,w'',fr,hR,_⟩:=h []
   cases e with
   | returned v=>obtain⟨u,e,hr⟩:=hR;exact⟨u,w'',hr⟩
   | panicked c=>exact hR.elim
   | outgrown=>obtain⟨_,_,hf⟩:=hR;exact hf.elim
  case row row args=>
   obtain⟨v,w'',hR,_⟩:=h default [];obtain⟨u,e,hr⟩:=hR;exact⟨u,w'',hr⟩
 | halt x w'=>cases x <;> simp only[Oper.upon]at h
theorem kL{d t:Nat}{s:SV}:qe ((d,s)::L) t=if d=t then some s else qe L t:=by
 simp only[qe]
 by_cases h:d=t
 ·subst h;simp[KU]
 ·have:Nat.beq d t=false:=by
   cases hb:Nat.beq d t with
   | false=>rfl
   | true=>exact absurd (Xg hb) h
  simp[this,h]
theorem zfZ{d t:Nat}{v:Value}(h:d < a.tmps.size):(a.put (some d) v).tmps.getD t undef=if d=t then v else a.tmps.getD t undef:=by
 simp only[Act.put]
 by_cases hd:d=t
 ·subst hd;simp[h]
 ·simp[hd]
theorem Rel.app {E:Env} {σ:St} {ρ:zk} {a:Act} {w w':World} {d:Option Tmp} {s:SV} {md:MD} {v:Value} (h:Rel E σ ρ a w) (hd:∀t,d=some t->t < σ.nt)
  (ha:k8 E.Keep σ.M ρ w σ.nk s md v w'):∃ρ',Rel E (σ.app d s md) ρ' (a.put d v) w':=by
 obtain⟨ρ',hs,hm,hg,hρ⟩:=ha;refine⟨ρ',?_⟩
 have hregs:∀t s,qe σ.L t=some s->t < σ.nt/\G (λb=>E.Keep b∨Own (zck σ.M σ.nk md) ρ' b) (Own (zck σ.M σ.nk md) ρ') ρ' w' s (a.tmps.getD t undef):=λt s hl=>
  ⟨(h.regs t s hl).1,((h.regs t s hl).2).stp hs⟩
 have hfresh:∀k,zaU σ.nk md<=k->ρ' k=none:=λk hk=>by
  have h1:σ.nk<=zaU σ.nk md:=by cases md <;> simp[zaU]
  rw[hρ k (.inr hk)];exact h.fresh k oM
 cases d with
 | none=>exact⟨h.size,h.defers,hregs,hm,hfresh,h.stp.trans hs,h.keep,h.low⟩
 | some d=>
  have hlt:=hd d rfl;refine⟨by have:=h.size;simpa[Act.put,St.app] using this,h.defers,λt s' hl0=>?_,hm,hfresh,h.stp.trans hs,h.keep,h.low⟩;have hl:(if d=t then some s else qe σ.L t)=some s':=by rw[← kL];exact hl0
  clear hl0;rw[zfZ (by rw[h.size];exact hlt)]
  by_cases e:d=t
  ·subst e;rw[if_pos rfl]at hl;cases hl
   rw[if_pos rfl];exact⟨hlt,hg⟩
  ·rw[if_neg e]at hl ⊢;exact hregs t s' hl
variable{E:Env}{σ:St}{ρ:zk}
theorem Rel.noKey(h:Rel E σ ρ a w):∀m,(σ.nk,m)∉σ.M:=λm hm=>by
 obtain⟨v,hv⟩:=(h.mem.rel _ m hm).name;rw[h.fresh _ (Xh _)]at hv;cases hv
theorem u1{Keep:Nat->Prop}(hm:zO Keep M ρ w):k8 Keep M ρ w κ (.val undef) .none undef w:=k8.same hm (.d _ _ (.val _))
structure zlJ (P:Program) (draw:Bool) (all:List Oper) (i:Nat) (o:Oper) (σ:St) (svs:List SV) (s:SV) (md:MD):Prop where
 ok:yK P o.op svs (if zc2 o.op then zdg σ.M σ.nk else λ_=>none) σ.nk s md
 ev:∀{S Pm:Nat->Prop} {ρ:zk} {a:Act} {w:World},(∀t s,t∈zg0 (qf o.op)->qe σ.L t=some s->G S Pm ρ w s (a.tmps.getD t undef))->Gs S Pm ρ w svs ((qf o.op).map a.eval)
 dst:∀t,o.dst=some t->t < σ.nt
 md:draw=true->MdOK all i σ.nk o.op md
variable{Γ:List (TypeId×TI)}
theorem zup(hT:TOK P Γ){o:Oper}{K:St->Prop}
  (hr:Rel E σ ρ a w) (h:zdm P Γ draw all i o σ K):∃svs s md,K (σ.app o.dst s md)/\zlJ P draw all i o σ svs s md:=by
 unfold zdm at h;replace h:=zfe h;obtain⟨svs,h,hev⟩:=zfY h;have hg:=hev (a:=a) (λt s _ hl=>(hr.regs t s hl).2);have hlm:∀k m,zdg σ.M σ.nk k=some m->zX σ.M k=some m:=λk m h=>(za1 h).2
 cases hu:zc2 o.op with
 | true=>
  obtain⟨s,md,hK,hok⟩:=zha hT ⟨E.Keep,σ.M,ρ,w,_,hlm,hr.mem,hg⟩ h;obtain⟨hK,hmd⟩:=zo0 (zdl (zdk hK));obtain⟨hd,hK⟩:=qK hK;exact⟨svs,s,md,hK,by simpa[hu] using hok,hev,hd,hmd⟩
 | false=>
  obtain⟨s,md,hK,hok⟩:=zha hT ⟨E.Keep,σ.M,ρ,w,_,λk m h=>(by cases h),hr.mem,hg⟩ (zzr (lm':=λ_=>none) hu h);obtain⟨hK,hmd⟩:=zo0 (zdl (zdk hK));obtain⟨hd,hK⟩:=qK hK;exact⟨svs,s,md,hK,by simpa[hu] using hok,hev,hd,hmd⟩
theorem zlJ.does{o:Oper}{svs:List SV} {s:SV}(h:zlJ P draw all i o σ svs s md)
  (hr:Rel E σ ρ a w):qH P o a w (k8 E.Keep σ.M ρ w σ.nk s md):=by
 refine h.ok o rfl E.Keep σ.M ρ a w (λk m hk=>?_) hr.mem (λk hk _=>hr.fresh k hk) (λ_=>hr.noKey) (h.ev λt s _ hl=>(hr.regs t s hl).2)
 split at hk
 ·exact(za1 hk).2
 ·cases hk
theorem Rel.refine(h:Rel E σ ρ a w) {t:Nat} {s s':SV} (hl:qe σ.L t=some s)
  (hg:∀S Pm ρ w v,G S Pm ρ w s v->G S Pm ρ w s' v):Rel E (σ.put (some t) s') ρ a w:=
 ⟨h.size,h.defers,λt' s2 hl0=>by
  have hl2:(if t=t' then some s' else qe σ.L t')=some s2:=by rw[← kL];exact hl0
  clear hl0
  by_cases e:t=t'
  ·subst e;rw[if_pos rfl]at hl2;cases hl2
   exact⟨(h.regs t s hl).1,hg _ _ _ _ _ (h.regs t s hl).2⟩
  ·rw[if_neg e]at hl2
   exact h.regs t' s2 hl2,h.mem,h.fresh,h.stp,h.keep,h.low⟩
variable{p:Prop}
theorem zcw{i:Decidable p}(hp:p):∀S Pm ρ w v,G S Pm ρ w (.pr p i) v->G S Pm ρ w (.val (.bool true)) v:=λ_ _ _ _ v h=>by
 rw[h.pr_inv];simp only[hp,decide_true];exact .d _ _ (.val _)
theorem za2{i:Decidable p}(hp:¬p):∀S Pm ρ w v,G S Pm ρ w (.pr p i) v->G S Pm ρ w (.val (.bool false)) v:=λ_ _ _ _ v h=>by
 rw[h.pr_inv];simp only[hp,decide_false];exact .d _ _ (.val _)
def zsJ(v:Value)(want:Bool):Bool:=
 match v with
 | .bool b=>b==want
 | _=>false
def jf(all:List Oper)(σ:St)(o:Oper)(run:Bool):Prop:=
 match o.guard with
 | none=>run=true
 | some (j,want)=>∃t v,zdi all j=some t/\qe σ.L t=some (.val v)/\run=zsJ v want
theorem zwm(all:List Oper)(j:Nat):zdi all j=(all[j]?).bind (·.dst):=by
 induction all generalizing j with
 | nil=>simp[zdi]
 | cons o r ih=>cases j with
  | zero=>simp[zdi]
  | succ j=>simp[zdi,ih]
theorem zlK{o:Oper} {run:Bool} (h:jf all σ o run)(hsz:a.tmps.size=σ.nt)
  (hg:∀t v,(∃j want,o.guard=some (j,want)/\zdi all j=some t)->qe σ.L t=some (.val v)->t < σ.nt/\a.tmps.getD t undef=v):Region.wanted o (yielded all.toArray a.tmps)=run:=by
 unfold jf at h;unfold Region.wanted
 split at h
 ·rename_i hn;simp[hn,h]
 ·rename_i j want hgd;obtain⟨t,v,h1,h2,h3⟩:=h;obtain⟨h4,h5⟩:=hg t v ⟨j,want,hgd,h1⟩ h2
  have h6:a.tmps[t]? =some v:=by
   have hlt:t < a.tmps.size:=hsz ▸ h4;simp[hlt]at h5 ⊢;exact h5
  rw[zwm]at h1;simp only[hgd,yielded];have h1':((all.toArray)[j]?).bind (·.dst)=some t:=by simpa using h1
  rw[h1'];simp only[Option.bind_some,h6,h3]
  cases v <;> first | rfl | (rename_i b;cases b <;> cases want <;> rfl)
theorem zf0(hT:TOK P Γ){o:Oper} {r:List Oper}{K:St->Prop}
  (hr:Rel E σ ρ a w) (h:vh P Γ draw all (o::r) i σ K):∃σ' run svs s md,vh P Γ draw all r (i+1) (σ'.app o.dst s md) K/\jf all σ' o run/\
   (σ'=σ∨∃t s0 s1,qe σ.L t=some s0/\(∀S Pm ρ w v,G S Pm ρ w s0 v->G S Pm ρ w s1 v)/\σ'=σ.put (some t) s1)/\(∀t,o.dst=some t->t < σ.nt)/\
   ((run=true/\zlJ P draw all i o σ' svs s md)∨(run=false/\s=.val undef/\md=.none)):=by
 have run1:∀{σ':St},Rel E σ' ρ a w->zdm P Γ draw all i o σ' (λσ=>vh P Γ draw all r (i+1) σ K)->σ'.nt=σ.nt->∃svs s md,vh P Γ draw all r (i+1) (σ'.app o.dst s md) K/\(∀t,o.dst=some t->t < σ.nt)/\zlJ P draw all i o σ' svs s md:=by
  intro σ' hr' h' hn;obtain⟨svs,s,md,h1,h2⟩:=zup hT hr' h';exact⟨svs,s,md,h1,λt e=>hn ▸ h2.dst t e,h2⟩
 simp only[vh]at h
 split at h
 ·rename_i hg;obtain⟨svs,s,md,h1,h2,h3⟩:=run1 hr h rfl;exact⟨σ,true,svs,s,md,h1,by simp[jf,hg],.inl rfl,h2,.inl ⟨rfl,h3⟩⟩
 ·rename_i j want hg
  split at h
  ·exact h.elim
  ·rename_i t ht
   have gv:∀{σ':St} {v:Value},qe σ'.L t=some (.val v)->jf all σ' o (zsJ v want):=λhl=>by
    unfold jf;rw[hg];exact⟨t,_,ht,hl,rfl⟩
   have gi:∀{σ':St} {b:Bool},qe σ'.L t=some (.val (.bool b))->jf all σ' o (b==want):=λhl=>gv hl
   have put_look:∀(s1:SV),qe (σ.put (some t) s1).L t=some s1:=λs1=>by
    show qe ((t,s1)::σ.L) t=some s1;rw[kL];simp
   split at h
   ·rename_i hl
    split at h
    ·obtain⟨svs,s,md,h1,h2,h3⟩:=run1 hr h rfl;exact⟨σ,_,svs,s,md,h1,gi hl,.inl rfl,h2,.inl ⟨rfl,h3⟩⟩
    ·obtain⟨hd,h⟩:=qK h;exact⟨σ,_,[],_,_,h,gi hl,.inl rfl,hd,.inr ⟨rfl,rfl,rfl⟩⟩
   ·rename_i hl
    split at h
    ·obtain⟨svs,s,md,h1,h2,h3⟩:=run1 hr h rfl;exact⟨σ,_,svs,s,md,h1,gi hl,.inl rfl,h2,.inl ⟨rfl,h3⟩⟩
    ·obtain⟨hd,h⟩:=qK h;exact⟨σ,_,[],_,_,h,gi hl,.inl rfl,hd,.inr ⟨rfl,rfl,rfl⟩⟩
   ·rename_i p ip hl
    by_cases hp:p
    ·have hr':=hr.refine hl (zcw hp)
     split at h
     ·obtain⟨svs,s,md,h1,h2,h3⟩:=run1 hr' (h.yes hp) rfl;exact⟨_,_,svs,s,md,h1,gi (put_look _),.inr ⟨t,_,_,hl,zcw hp,rfl⟩,h2,.inl ⟨rfl,h3⟩⟩
     ·obtain⟨hd,h⟩:=qK (h.yes hp);exact⟨_,_,[],_,_,h,gi (put_look _),.inr ⟨t,_,_,hl,zcw hp,rfl⟩,hd,.inr ⟨rfl,rfl,rfl⟩⟩
    ·have hr':=hr.refine hl (za2 hp)
     split at h
     ·obtain⟨hd,h⟩:=qK (h.no hp);exact⟨_,_,[],_,_,h,gi (put_look _),.inr ⟨t,_,_,hl,za2 hp,rfl⟩,hd,.inr ⟨rfl,rfl,rfl⟩⟩
     ·obtain⟨svs,s,md,h1,h2,h3⟩:=run1 hr' (h.no hp) rfl;exact⟨_,_,svs,s,md,h1,gi (put_look _),.inr ⟨t,_,_,hl,za2 hp,rfl⟩,h2,.inl ⟨rfl,h3⟩⟩
   ·rename_i hl;obtain⟨hd,h⟩:=qK h;exact⟨σ,_,[],_,_,h,gv hl,.inl rfl,hd,.inr ⟨rfl,rfl,rfl⟩⟩
   ·exact h.elim
theorem Rel.wanted{E:Env}{σ:St}{ρ:zk}{a:Act}{w:World}(h:Rel E σ ρ a w){all:List Oper}{o:Oper}{run:Bool}(hg:jf all σ o run):Region.wanted o (yielded all.toArray a.tmps)=run:=
 zlK hg h.size λt _ _ hl=>⟨(h.regs t _ hl).1,(h.regs t _ hl).2.val_inv⟩
theorem ziE {P:Program} {Γ:List (TypeId×TI)} (hT:TOK P Γ) {all:List Oper} {draw:Bool} {E:Env} {Q:Exit->Act->World->Prop} {K:St->Prop}
  (hQ:∀σ ρ a w,K σ->Rel E σ ρ a w->Q .normal a w):∀{l:List Oper} {i:Nat} {σ:St} {ρ:zk} {a:Act} {w:World},Rel E σ ρ a w->vh P Γ draw all l i σ K->wpList P all.toArray Q l a w
 | [],i,σ,ρ,a,w,hr,h=>hQ σ ρ a w h hr
 | o::r,i,σ,ρ,a,w,hr,h=>by
  obtain⟨σ',run,svs,s,md,h1,hg,href,hd,hrun⟩:=zf0 hT hr h
  have hr':Rel E σ' ρ a w:=by
   rcases href with rfl | ⟨t,s0,s1,h2,h3,rfl⟩
   ·exact hr
   ·exact hr.refine h2 h3
  have hnt:σ'.nt=σ.nt:=by rcases href with rfl | ⟨t,s0,s1,h2,h3,rfl⟩ <;> rfl
  unfold wpList;rw[hr'.wanted hg]
  rcases hrun with⟨rfl,hst⟩ | ⟨rfl,rfl,rfl⟩
  ·simp only[if_true];refine .inl ((hst.does hr').wp λv w' ha=>?_);obtain⟨ρ',hrel⟩:=hr'.app (λt e=>hnt ▸ hd t e) ha;exact ziE hT hQ hrel h1
  ·simp only[KA,if_false];obtain⟨ρ',hrel⟩:=hr'.app (λt e=>hnt ▸ hd t e) (u1 hr'.mem);exact ziE hT hQ hrel h1
def Down(all:List Oper)(D:Nat->Prop):Prop:=∀i o,D i->all[i]? =some o->∀e∈o.after,Region.binds .any e=true->D e.on
def Anc(all:List Oper)(j i:Nat):Prop:=∀D:Nat->Prop,Down all D->(∀o,all[j]? =some o->∀e∈o.after,Region.binds .any e=true->D e.on)->D i
theorem zei(all:List Oper)(n:Nat):(zbr all n).length=n:=by
 induction n with
 | zero=>rfl
 | succ n ih=>simp[zbr,ih]
theorem zlL(all:List Oper):∀(n j:Nat),j < n->(zbr all n)[j]? =some (match all[j]? with | some o=>zrf (zbr all j) o | none=>0)
 | 0,j,h=>oM
 | n+1,j,h=>by
  simp only[zbr]
  by_cases hj:j < n
  ·rw[XF (by rw[zei];exact hj)];exact zlL all n j hj
  ·have:j=n:=by omega
   subst this;rw[XA (by rw[zei];omega),zei];simp;rfl
theorem zdv(all:List Oper):∀(n j i:Nat),j < n->((zbr all n).getD j 0).testBit i=true->Anc all j i:=by
 intro n j
 induction j using Nat.strongRecOn generalizing n with
 | _ j ih=>
  intro i hj hbit D hD hedges;have hg:=zlL all n j hj;rw[Xt,hg]at hbit
  cases ho:all[j]? with
  | none=>simp[ho]at hbit
  | some o=>
   simp only[ho,Qf]at hbit;unfold zrf at hbit
   have key:∀(es:List Edge) (s0:Nat),(∀e∈es,e∈o.after)->(s0.testBit i=true->D i)->
     (es.foldl (λs e=>if Region.binds .any e then s|||2 ^ e.on|||(zbr all j).getD e.on 0 else s) s0).testBit i=true->D i:=by
    intro es
    induction es with
    | nil=>intro s0 _ h0 h;exact h0 h
    | cons e es ihe=>
     intro s0 hes h0 h;simp only[Kw]at h;refine ihe _ (λe' he'=>hes e' (.tail _ he')) ?_ h;intro hb
     split at hb
     ·rename_i hbind;simp only[Nat.testBit_or,Jw]at hb;have hde:D e.on:=hedges o ho e (hes e (.head _)) hbind
      rcases hb with(hb | hb) | hb
      ·exact h0 hb
      ·rw[Nat.testBit_two_pow]at hb;have:e.on=i:=by simpa using hb
       exact this ▸ hde
      ·by_cases hlt:e.on < j
       ·refine ih e.on hlt j i hlt hb D hD λo' ho'=>hD e.on o' hde ho'
       ·rw[Xt,XD (by rw[zei];omega)]at hb;simp at hb
     ·exact h0 hb
   exact key o.after.toList 0 (λe he=>by simpa using he) (λh=>by simp at h) hbit
theorem zrt(h:vq all=true):(∀j o,all[j]? =some o->∀e∈o.after,Region.binds .any e=true->e.on < j)/\
  ∀i j oi oj,i < j->all[i]? =some oi->all[j]? =some oj->zuh all oi oj=true->Anc all j i:=by
 unfold vq at h;simp only[Xx]at h;obtain⟨h1,h2⟩:=h;refine⟨λj o ho e he hb=>?_,λi j oi oj hij hi hj hc=>?_⟩
 ·have hjl:j < all.length:=(Xc.1 ho).1;have:=XN.1 h1 j (Kj.2 hjl);simp only[ho]at this;have:=XN.1 this e (by simpa using he);simp only[hb,Qq,QE]at this;exact Xw this
 ·have hjl:j < all.length:=(Xc.1 hj).1;have:=XN.1 h2 j (Kj.2 hjl);have:=XN.1 this i (Kj.2 hij);simp only[hi,hj,hc,Qq,Yt]at this;exact zdv all all.length j i hjl this
theorem zuq(h:zm8 all i=true):∀j oj,i < j->all[j]? =some oj->zc2 oj.op=true->Anc all j i:=by
 intro j oj hij hj hu;unfold zm8 at h;have hjl:j < all.length:=(Xc.1 hj).1;have:=XN.1 h j (Kj.2 hjl)
 have hnb:Nat.ble j i=false:=by
  cases hb:Nat.ble j i with
  | false=>rfl
  | true=>have:=Xw hb;omega
 simp only[hj,hu,hnb,Qq,Yt,QE]at this;exact zdv all all.length j i hjl this
theorem zjr{a b:List Nat}{t:Nat}(h1:t∈a)(h2:t∈b):zdj a b=true:=by
 unfold zdj;exact List.any_eq_true.2 ⟨t,h1,List.any_eq_true.2 ⟨t,h2,KU t⟩⟩
def zeO(σ' σ:St):Prop:=σ'.M=σ.M/\σ'.nk=σ.nk/\σ'.nt=σ.nt/\σ'.n0=σ.n0/\∀t s',qe σ'.L t=some s'->∃s0,qe σ.L t=some s0/\∀S Pm ρ w v,G S Pm ρ w s0 v->G S Pm ρ w s' v
theorem zeO.refl{σ:St}:zeO σ σ:=⟨rfl,rfl,rfl,rfl,λ_ s h=>⟨s,h,λ_ _ _ _ _ h=>h⟩⟩
structure Lex0 (P:Program) (all:List Oper) (E:Env) (σ0:St) (i0:Nat) (T:Nat->St) (s:Nat->SV) (md:Nat->MD) (run:Nat->Bool) (svs:Nat->List SV):Prop where
 start:zeO (T i0) σ0
 next:∀j o,i0<=j->all[j]? =some o->zeO (T (j+1)) ((T j).app o.dst (s j) (md j))
 dst:∀j o,i0<=j->all[j]? =some o->∀t,o.dst=some t->t < σ0.nt
 guard:∀j o,i0<=j->all[j]? =some o->jf all (T j) o (run j)
 step:∀j o,i0<=j->all[j]? =some o->(run j=true/\zlJ P true all j o (T j) (svs j) (s j) (md j))∨(run j=false/\s j=.val undef/\md j=.none)
 pw:∀j,i0<=j->j<=all.length->(T j).M.Pairwise λa b=>a.1≠b.1
theorem zjs{P:Program}{Γ:List (TypeId×TI)}(hT:TOK P Γ){all:List Oper}{E:Env}{K:St->Prop}:∀(l:List Oper) (i:Nat) (σ:St) (ρ:zk) (a:Act) (w:World),i+l.length=all.length->
  (∀j,l[j]? =all[i+j]?)->Rel E σ ρ a w->vh P Γ true all l i σ K->∃T s md run svs,Lex0 P all E σ i T s md run svs/\K (T all.length)
 | [],i,σ,ρ,a,w,hlen,hl,hr,h=>by
  have hi:i=all.length:=by simpa using hlen
  subst hi;refine⟨λ_=>σ,λ_=>.junk,λ_=>.none,λ_=>false,λ_=>[],⟨.refl,?_,?_,?_,?_,λ_ _ _=>hr.mem.keys⟩,h⟩ <;>
  ·intro j o hj ho;have:=(Xc.1 ho).1;omega
 | o::r,i,σ,ρ,a,w,hlen,hl,hr,h=>by
  have h0:all[i]? =some o:=by simpa using (hl 0).symm
  obtain⟨σ',run0,svs0,s0,md0,h1,hg,href,hd,hrun⟩:=zf0 hT hr h
  have hr':Rel E σ' ρ a w:=by
   rcases href with rfl | ⟨t,s0,s1,h2,h3,rfl⟩
   ·exact hr
   ·exact hr.refine h2 h3
  have hnt:σ'.nt=σ.nt:=by rcases href with rfl | ⟨t,s0,s1,h2,h3,rfl⟩ <;> rfl
  have href':zeO σ' σ:=by
   rcases href with rfl | ⟨t,s2,s1,h2,h3,rfl⟩
   ·exact .refl
   ·refine⟨rfl,rfl,rfl,rfl,λt' s' hl'=>?_⟩;have hl':(if t=t' then some s1 else qe σ.L t')=some s':=by rw[← kL];exact hl'
    by_cases e:t=t'
    ·subst e;rw[if_pos rfl]at hl';cases hl'
     exact⟨s2,h2,h3⟩
    ·rw[if_neg e]at hl';exact⟨s',hl',λ_ _ _ _ _ h=>h⟩
  have hnext:∃ρ1 a1 w1,Rel E (σ'.app o.dst s0 md0) ρ1 a1 w1:=by
   rcases hrun with⟨_,hst⟩ | ⟨_,rfl,rfl⟩
   ·obtain⟨v,w1,ha⟩:=(hst.does hr').ex;obtain⟨ρ1,hr1⟩:=hr'.app (λt e=>hnt ▸ hd t e) ha;exact⟨ρ1,_,w1,hr1⟩
   ·obtain⟨ρ1,hr1⟩:=hr'.app (λt e=>hnt ▸ hd t e) (u1 hr'.mem);exact⟨ρ1,_,w,hr1⟩
  obtain⟨ρ1,a1,w1,hr1⟩:=hnext;obtain⟨T,s,md,run,svs,hlex,hK⟩:=zjs hT r (i+1) _ ρ1 a1 w1 (by simp at hlen;omega) (λj=>by have:=hl (j+1);simpa[KN,J6 1 j] using this) hr1 h1;have hapn:(σ'.app o.dst s0 md0).nt=σ.nt:=hnt;have hil:i < all.length:=(Xc.1 h0).1
  refine⟨λj=>if j=i then σ' else T j,λj=>if j=i then s0 else s j,λj=>if j=i then md0 else md j,λj=>if j=i then run0 else run j,λj=>if j=i then svs0 else svs j,
   ⟨by simpa using href',?_,?_,?_,?_,?_⟩,by simpa[show all.length≠i by omega] using hK⟩
  ·intro j oj hj ho
   by_cases e:j=i
   ·subst e;rw[h0]at ho;cases ho
    simpa using hlex.start
   ·have:=hlex.next j oj oM ho
    simpa[e,show j+1≠i by omega] using this
  ·intro j oj hj ho t ht
   by_cases e:j=i
   ·subst e;rw[h0]at ho;cases ho
    exact hd t ht
   ·exact hapn ▸ hlex.dst j oj oM ho t ht
  ·intro j oj hj ho
   by_cases e:j=i
   ·subst e;rw[h0]at ho;cases ho
    simpa using hg
   ·simpa[e] using hlex.guard j oj oM ho
  ·intro j oj hj ho
   by_cases e:j=i
   ·subst e;rw[h0]at ho;cases ho
    simpa using hrun
   ·simpa[e] using hlex.step j oj oM ho
  ·intro j hj hjl
   by_cases e:j=i
   ·subst e
    simpa using hr'.mem.keys
   ·simpa[e] using hlex.pw j oM hjl
def jg(T:Nat->St)(md:Nat->MD)(i k:Nat):Prop:=
 match md i with
 | .none=>False
 | .push _=>k=(T i).nk
 | .set k' _=>k=k'
 | .drop k'=>k=k'
 | .repl k' _=>k=k'∨k=(T i).nk
 | .give ks _ nn=>k∈ks∨((T i).nk<=k/\k < (T i).nk+nn)
def zcx(κ:Nat)(md:MD):Prop:=
 match md with
 | .give ks new nn=>(∀k m,(k,m)∈new->k∈ks∨(κ<=k/\k < κ+nn))/\∀k,κ<=k->k < κ+nn->∃m,(k,m)∈new
 | _=>True
structure zjt (P:Program) (o:Oper) (σ:St) (svs:List SV) (s:SV) (md:MD) (U:Nat->Prop):Prop where
 ok:∃lm:Nat->Option Mem,yK P o.op svs lm σ.nk s md/\∀k m,lm k=some m->U k/\zX σ.M k=some m
 ev:∀{S Pm:Nat->Prop} {ρ:zk} {a:Act} {w:World},(∀t s,t∈zg0 (qf o.op)->qe σ.L t=some s->G S Pm ρ w s (a.tmps.getD t undef))->Gs S Pm ρ w svs ((qf o.op).map a.eval)
structure Lex (P:Program) (all:List Oper) (E:Env) (σ0:St) (T:Nat->St) (s:Nat->SV) (md:Nat->MD) (run:Nat->Bool) (svs:Nat->List SV) (U:Nat->Nat->Prop):Prop where
 start:zeO (T 0) σ0
 next:∀(j:Nat) (o:Oper),all[j]? =some o->zeO (T (j+1)) ((T j).app o.dst (s j) (md j))
 dst:∀(j:Nat) (o:Oper),all[j]? =some o->∀t,o.dst=some t->t < σ0.nt
 guard:∀(j:Nat) (o:Oper),all[j]? =some o->jf all (T j) o (run j)
 step:∀(j:Nat) (o:Oper),all[j]? =some o->(run j=true/\zjt P o (T j) (svs j) (s j) (md j) (U j))∨(run j=false/\s j=.val undef/\md j=.none)
 pw:∀j:Nat,j<=all.length->(T j).M.Pairwise λa b=>a.1≠b.1
 nodrop:∀(j:Nat) (o:Oper),all[j]? =some o->zcx (T j).nk (md j)
 edges:∀(j:Nat) (o:Oper),all[j]? =some o->∀e∈o.after,Region.binds .any e=true->e.on < j
 slot:∀(i j:Nat) (oi oj:Oper),i < j->all[i]? =some oi->all[j]? =some oj->zi9 all oi oj=true->Anc all j i
 mem:∀(i j:Nat),i < j->j < all.length->∀k:Nat,(jg T md i k/\(U j k∨jg T md j k))∨(U i k/\jg T md j k)->Anc all j i
structure Inv (all:List Oper) (E:Env) (σ0:St) (T:Nat->St) (md:Nat->MD) (D:Nat->Prop) (M:List (Nat×Mem)) (ρ:zk) (a:Act) (w:World):Prop where
 size:a.tmps.size=σ0.nt
 defers:a.defers=E.ds
 down:Down all D
 mem:zO E.Keep M ρ w
 regs:∀t j sv,j<=all.length->(∀i o,all[i]? =some o->o.dst=some t->(D i↔i < j))->qe (T j).L t=some sv->
  t < σ0.nt/\G (λb=>E.Keep b∨Own M ρ b) (Own M ρ) ρ w sv (a.tmps.getD t undef)
 keys:∀k j m,j<=all.length->(∀i,i < all.length->jg T md i k->(D i↔i < j))->zX (T j).M k=some m->zX M k=some m
 names:∀k v,ρ k=some v->k < σ0.nk∨∃i,D i/\i < all.length/\(T i).nk<=k/\k < zaU (T i).nk (md i)
 stp:Stp E.W0 (Own M ρ) E.ρ0 ρ E.w0 w
variable{k':Nat}
theorem qo{k:Nat}:zX ((k,m)::M) k'=if k=k' then some m else zX M k':=by
 simp only[zX]
 by_cases h:k=k'
 ·subst h;simp[KU]
 ·have:Nat.beq k k'=false:=by
   cases hb:Nat.beq k k' with
   | false=>rfl
   | true=>exact absurd (Xg hb) h
  simp[this,h]
theorem zju{k:Nat}:zX (qM M k m) k'=if k=k' then(zX M k).map (λ_=>m) else zX M k':=by
 induction M with
 | nil=>simp[qM,zX]
 | cons x r ih=>
  obtain⟨q,y⟩:=x;simp only[qM]
  split
  ·rename_i hb;have:=Xg hb;subst this;rw[qo,qo,qo]
   by_cases e:q=k' <;> simp[e]
  ·rename_i hb;have hne:=KH hb;rw[qo,ih,qo,qo]
   by_cases e:k=k'
   ·subst e;simp[hne]
   ·simp[e]
theorem zdw{k:Nat}(h:k≠k'):zX (qn M k) k'=zX M k':=by
 induction M with
 | nil=>rfl
 | cons x r ih=>
  obtain⟨q,y⟩:=x;simp only[qn]
  split
  ·rename_i hb;have:=Xg hb;subst this;rw[qo,if_neg h]
  ·rw[qo,qo,ih]
theorem zas{k:Nat}(hp:M.Pairwise λa b=>a.1≠b.1):zX (qn M k) k=none:=by
 cases h:zX (qn M k) k with
 | none=>rfl
 | some m=>exact absurd rfl (yL hp _ (zA h))
end
section lex
variable {P:Program} {all:List Oper} {E:Env} {σ0:St} {T:Nat->St} {s:Nat->SV} {md:Nat->MD} {run:Nat->Bool} {svs:Nat->List SV} {U:Nat->Nat->Prop}
section
variable{j:Nat}
theorem Lex.nk_next(h:Lex P all E σ0 T s md run svs U)(hj:j < all.length):(T (j+1)).nk=zaU (T j).nk (md j):=by
 have:=(h.next j _ (Xb hj)).2.1;exact this
theorem zsK(κ:Nat)(m:MD):κ<=zaU κ m:=by cases m <;> simp[zaU]
theorem Lex.nk_mono(h:Lex P all E σ0 T s md run svs U){i:Nat}:∀{j:Nat},i<=j->j<=all.length->(T i).nk<=(T j).nk
 | 0,hij,_=>by
   have:i=0:=oM;subst this;exact Xh _
 | j+1,hij,hj=>by
  by_cases e:i=j+1
  ·subst e;exact Xh _
  ·have:=h.nk_mono (i:=i) (j:=j) oM oM;rw[h.nk_next oM];exact XB this (zsK _ _)
variable{i:Nat}
theorem Lex.nk_push(h:Lex P all E σ0 T s md run svs U)(hij:i < j)(hj:j<=all.length):zaU (T i).nk (md i)<=(T j).nk:=by
 have h1:=h.nk_mono (i:=i+1) (j:=j) oM hj
 rwa [h.nk_next oM]at h1
theorem zwn{σ:St}{d:Option Tmp}{sv:SV}{m:MD}{t:Nat}(hd:d≠some t):qe (σ.app d sv m).L t=qe σ.L t:=by
 cases d with
 | none=>rfl
 | some d=>
  show qe ((d,sv)::σ.L) t=_;rw[kL,if_neg (λe=>hd (by rw[e]))]
theorem Lex.look_chain(h:Lex P all E σ0 T s md run svs U){t j0:Nat}:∀{j:Nat} {s':SV},j0<=j->j<=all.length->(∀i o,j0<=i->i < j->all[i]? =some o->o.dst≠some t)->qe (T j).L t=some s'->
  ∃s0,qe (T j0).L t=some s0/\∀S Pm ρ w v,G S Pm ρ w s0 v->G S Pm ρ w s' v
 | 0,s',h0,_,_,hl=>by
  have:j0=0:=oM;subst this;exact⟨s',hl,λ_ _ _ _ _ h=>h⟩
 | j+1,s',h0,hj,hw,hl=>by
  by_cases e:j0=j+1
  ·subst e;exact⟨s',hl,λ_ _ _ _ _ h=>h⟩
  ·have hlt:j < all.length:=by omega
   have ho:=Xb hlt;obtain⟨s1,hl1,hi1⟩:=(h.next j _ ho).2.2.2.2 t s' hl;rw[zwn (hw j _ oM oM ho)]at hl1;obtain⟨s0,hl0,hi0⟩:=h.look_chain (j:=j) oM oM (λi o h1 h2=>hw i o h1 oM) hl1;exact⟨s0,hl0,λS Pm ρ w v hg=>hi1 _ _ _ _ _ (hi0 _ _ _ _ _ hg)⟩
variable{A:List (Nat×Mem)}
theorem zf1{B:List (Nat×Mem)}{k:Nat}:zX (A++B) k=(match zX A k with | some m=>some m | none=>zX B k):=by
 induction A with
 | nil=>rfl
 | cons x r ih=>
  obtain⟨q,y⟩:=x;rw[QN,qo,qo]
  by_cases h:q=k
  ·simp[h]
  ·simp only[h,if_false];exact ih
theorem zbL{k:Nat}:∀{ks:List Nat} {M:List (Nat×Mem)},k∉ks->zX (uW M ks) k=zX M k
 | [],_,_=>rfl
 | q::r,M,h=>by
  simp only[uW];rw[zbL (λe=>h (.tail _ e)),zdw (λe=>h (by rw[e];exact .head _))]
theorem zlk{k:Nat}(h:∀m,(k,m)∉A):zX A k=none:=by
 cases hl:zX A k with
 | none=>rfl
 | some m=>exact absurd (zA hl) (h m)
variable{m:Mem}
theorem zll{k:Nat}(h:(k,m)∈A):∃m',zX A k=some m':=by
 induction A with
 | nil=>cases h
 | cons x r ih=>
  obtain⟨q,y⟩:=x;rw[qo]
  by_cases e:q=k
  ·exact⟨y,if_pos e⟩
  ·rw[if_neg e]
   cases h with
   | head=>exact absurd rfl e
   | tail _ h=>exact ih h
theorem za3{k:Nat}:∀{ks:List Nat} {M:List (Nat×Mem)},M.Pairwise (λa b=>a.1≠b.1)->k∈ks->zX (uW M ks) k=none
 | [],_,_,h=>(by cases h)
 | q::r,M,hp,h=>by
  simp only[uW]
  by_cases hr:k∈r
  ·exact za3 (qE hp) hr
  ·rw[zbL hr]
   cases h with
   | head=>exact zas hp
   | tail _ h=>exact absurd h hr
variable{M:List (Nat×Mem)}
theorem zlM{k:Nat}(hgv:zcx (T j).nk (md j))(hn:¬jg T md j k):zX (zck M (T j).nk (md j)) k=zX M k:=by
 unfold jg at hn
 cases hm:md j <;> simp only[hm]at hn <;> simp only[zck]
 ·rw[qo,if_neg (λe=>hn e.symm)]
 ·rw[zju,if_neg (λe=>hn e.symm)]
 ·exact zdw (λe=>hn e.symm)
 ·rw[qo,if_neg (λe=>hn (.inr e.symm))];exact zdw (λe=>hn (.inl e.symm))
 ·rename_i ks new nn;unfold zcx at hgv;simp only[hm]at hgv;rw[zf1,zlk (λm hmem=>hn (hgv.1 k m hmem)),zbL (λh=>hn (.inl h))]
theorem Lex.lookM_chain(h:Lex P all E σ0 T s md run svs U){k j0:Nat}:∀{j:Nat},j0<=j->j<=all.length->(∀i,j0<=i->i < j->¬jg T md i k)->zX (T j).M k=zX (T j0).M k
 | 0,h0,_,_=>by
  have:j0=0:=oM;subst this;rfl
 | j+1,h0,hj,hw=>by
  by_cases e:j0=j+1
  ·subst e;rfl
  ·have hlt:j < all.length:=by omega
   have ho:=Xb hlt;have hM:=(h.next j _ ho).1;rw[hM];show zX (zck (T j).M (T j).nk (md j)) k=_;rw[zlM (h.nodrop j _ ho) (hw j oM oM)];exact h.lookM_chain oM oM λi h1 h2=>hw i h1 oM
theorem zur{k:Nat}(hp:M.Pairwise λa b=>a.1≠b.1)(h:(k,m)∈M):zX M k=some m:=by
 induction M with
 | nil=>cases h
 | cons x r ih=>
  obtain⟨q,y⟩:=x;rw[X4]at hp;rw[qo]
  cases h with
  | head=>simp
  | tail _ h=>
   have:q≠k:=hp.1 _ h;rw[if_neg this];exact ih hp.2 h
variable{ρ:zk}{a:Act}{w:World}
theorem Inv.after (hlex:Lex P all E σ0 T s md run svs U) {D:Nat->Prop}{w':World}{v:Value} (hI:Inv all E σ0 T md D M ρ a w)
{o:Oper} (ho:all[j]? =some o) (hj:¬D j) (hedges:∀e∈o.after,Region.binds .any e=true->D e.on) (ha:k8 E.Keep M ρ w (T j).nk (s j) (md j) v w'):
  ∃M' ρ',Inv all E σ0 T md (λi=>i=j∨D i) M' ρ' (a.put o.dst v) w':=by
 obtain⟨ρ',hs,hm,hg,hρ⟩:=ha;have hjl:j < all.length:=(Xc.1 ho).1;have hbefore:∀i,Anc all j i->D i:=λi hA=>hA D hI.down (λo' ho'=>by rw[ho]at ho';cases ho';exact hedges)
 have hafter:∀i,Anc all i j->¬D i:=λi hA hDi=>hj (hA D hI.down (λoi hi=>hI.down i oi hDi hi))
 have hdef:(a.put o.dst v).defers=E.ds:=by cases hd:o.dst <;> exact hI.defers
 refine⟨zck M (T j).nk (md j),ρ',?_,hdef,?_,hm,?_,?_,?_,hI.stp.trans hs⟩
 ·have:=hI.size
  cases hd:o.dst <;> simpa[Act.put] using this
 ·intro i oi hi hoi e he hb
  rcases hi with rfl | hi
  ·rw[ho]at hoi;cases hoi;exact .inr (hedges e he hb)
  ·exact .inr (hI.down i oi hi hoi e he hb)
 ·intro t j' sv hj' hag hl
  have hold:o.dst≠some t->(∀i oi,all[i]? =some oi->oi.dst=some t->(D i↔i < j')):=λhd i oi hi hdi=>by
   have h1:=hag i oi hi hdi;constructor
   ·intro h;exact h1.1 (.inr h)
   ·intro h
    rcases h1.2 h with rfl | h
    ·rw[ho]at hi;cases hi;exact absurd hdi hd
    ·exact h
  by_cases hd:o.dst=some t
  ·have hlt:j < j':=(hag j o ho hd).1 (.inl rfl)
   have hno:∀i oi,j+1<=i->i < j'->all[i]? =some oi->oi.dst≠some t:=λi oi h1 h2 hi hdi=>by
    have hDi:=((hag i oi hi hdi).2 h2).resolve_left oM;refine hafter i (hlex.slot j i o oi oM ho hi ?_) hDi;unfold zi9;have:zdj (uG o) (uG oi)=true:=zjr (t:=t) (by simp[uG,hd]) (by simp[uG,hdi]);simp[this]
   obtain⟨s1,hl1,hi1⟩:=hlex.look_chain (j0:=j+1) oM hj' hno hl;obtain⟨s2,hl2,hi2⟩:=(hlex.next j o ho).2.2.2.2 t s1 hl1;have hl2:qe (putL (T j).L o.dst (s j)) t=some s2:=hl2;rw[hd]at hl2;have hl2:qe ((t,s j)::(T j).L) t=some s2:=hl2;rw[kL,if_pos rfl]at hl2
   cases hl2
   have htl:=hlex.dst j o ho t hd;refine⟨htl,?_⟩;rw[hd,zfZ (by rw[hI.size];exact htl),if_pos rfl];exact hi1 _ _ _ _ _ (hi2 _ _ _ _ _ hg)
  ·obtain⟨htl,hg'⟩:=hI.regs t j' sv hj' (hold hd) hl;refine⟨htl,?_⟩
   have hput:(a.put o.dst v).tmps.getD t undef=a.tmps.getD t undef:=by
    cases hdd:o.dst with
    | none=>rfl
    | some d=>
     have hdl:=hlex.dst j o ho d hdd;rw[zfZ (by rw[hI.size];exact hdl),if_neg (λe=>hd (by rw[hdd,e]))]
   rw[hput];exact hg'.stp hs
 ·intro k j' m hj' hag hl
  by_cases ht:jg T md j k
  ·have hlt:j < j':=(hag j hjl ht).1 (.inl rfl)
   have hno:∀i,j+1<=i->i < j'->¬jg T md i k:=λi h1 h2 hti=>by
    have hil:i < all.length:=oM;have hDi:=((hag i hil hti).2 h2).resolve_left oM;exact hafter i (hlex.mem j i oM hil k (.inl ⟨ht,.inr hti⟩)) hDi
   rw[hlex.lookM_chain (j0:=j+1) oM hj' hno,(hlex.next j o ho).1]at hl;have hl:zX (zck (T j).M (T j).nk (md j)) k=some m:=hl
   have hagj:∀m,zX (T j).M k=some m->zX M k=some m:=λm hlk=>by
    refine hI.keys k j m oM (λi hil hti=>?_) hlk;constructor
    ·intro hDi
     rcases Qo i j with h | h | h
     ·exact h
     ·subst h;exact absurd hDi hj
     ·exact absurd hDi (hafter i (hlex.mem j i h hil k (.inl ⟨ht,.inr hti⟩)))
    ·intro hij;exact hbefore i (hlex.mem i j hij hjl k (.inl ⟨hti,.inr ht⟩))
   unfold jg at ht
   cases hmd:md j with
   | none=>simp only[hmd]at ht
   | push m'=>
    simp only[hmd]at ht hl ⊢;simp only[zck]at hl ⊢;rw[qo,if_pos ht.symm]at hl ⊢;exact hl
   | set k' m'=>
    simp only[hmd]at ht hl ⊢;subst ht;simp only[zck]at hl ⊢;rw[zju,if_pos rfl]at hl ⊢
    cases hq:zX (T j).M k with
    | none=>rw[hq]at hl;cases hl
    | some m0=>
     rw[hq]at hl;rw[hagj m0 hq];exact hl
   | drop k'=>
    simp only[hmd]at ht hl;subst ht;simp only[zck]at hl;rw[zas (hlex.pw j oM)]at hl
    cases hl
   | repl k' m'=>
    simp only[hmd]at ht hl ⊢;simp only[zck]at hl ⊢;rw[qo]at hl ⊢
    by_cases e:(T j).nk=k
    ·rw[if_pos e]at hl ⊢;exact hl
    ·rw[if_neg e]at hl ⊢;have hkk:=ht.resolve_right (λh=>e h.symm);subst hkk;rw[zas (hlex.pw j oM)]at hl
     cases hl
   | give ks new nn=>
    have hgv:=hlex.nodrop j o ho;unfold zcx at hgv;simp only[hmd]at ht hl hgv ⊢;simp only[zck]at hl ⊢;rw[zf1]at hl ⊢
    cases hq:zX new k with
    | some m0=>rw[hq]at hl;exact hl
    | none=>
     exfalso
     rw[hq]at hl
     rcases ht with ht | ⟨h1,h2⟩
     ·have hl:zX (uW (T j).M ks) k=some m:=hl;rw[za3 (hlex.pw j oM) ht]at hl
      cases hl
     ·obtain⟨m1,hm1⟩:=hgv.2 k h1 h2;obtain⟨m2,hm2⟩:=zll hm1;rw[hq]at hm2;cases hm2
  ·rw[zlM (hlex.nodrop j o ho) ht];refine hI.keys k j' m hj' (λi hil hti=>?_) hl;have h1:=hag i hil hti;constructor
   ·intro h;exact h1.1 (.inr h)
   ·intro h
    rcases h1.2 h with rfl | h
    ·exact absurd hti ht
    ·exact h
 ·intro k v' hv'
  by_cases hk:k < (T j).nk∨zaU (T j).nk (md j)<=k
  ·rw[hρ k hk]at hv'
   rcases hI.names k v' hv' with h | ⟨i,h1,h2,h3,h4⟩
   ·exact .inl h
   ·exact .inr ⟨i,.inr h1,h2,h3,h4⟩
  ·exact .inr ⟨j,.inl rfl,hjl,oM,oM⟩
theorem Lex.nt(h:Lex P all E σ0 T s md run svs U):∀{j:Nat},j<=all.length->(T j).nt=σ0.nt/\(T j).n0=σ0.n0
 | 0,_=>⟨h.start.2.2.1,h.start.2.2.2.1⟩
 | j+1,hj=>by
  have ho:=Xb (show j < all.length by omega);obtain⟨_,_,h1,h2,_⟩:=h.next j _ ho
  obtain⟨h3,h4⟩:=h.nt (j:=j) oM;exact⟨h1.trans h3,h2.trans h4⟩
theorem Inv.sees (hlex:Lex P all E σ0 T s md run svs U) {D:Nat->Prop}(hI:Inv all E σ0 T md D M ρ a w)
{o:Oper} (ho:all[j]? =some o) (hj:¬D j) (hedges:∀e∈o.after,Region.binds .any e=true->D e.on):
  (∀t,t∈zcs all o->∀sv,qe (T j).L t=some sv->t < σ0.nt/\G (λb=>E.Keep b∨Own M ρ b) (Own M ρ) ρ w sv (a.tmps.getD t undef))/\
  (∀k m,U j k->zX (T j).M k=some m->zX M k=some m)/\(∀k,(T j).nk<=k->k < zaU (T j).nk (md j)->ρ k=none):=by
 have hjl:j < all.length:=(Xc.1 ho).1;have hbefore:∀i,Anc all j i->D i:=λi hA=>hA D hI.down (λo' ho'=>by rw[ho]at ho';cases ho';exact hedges)
 have hafter:∀i,Anc all i j->¬D i:=λi hA hDi=>hj (hA D hI.down (λoi hi=>hI.down i oi hDi hi))
 refine⟨λt ht sv hl=>hI.regs t j sv oM (λi oi hi hd=>?_) hl,λk m hu hlk=>?_,λq hp1 hp2=>?_⟩
 ·constructor
  ·intro hDi
   rcases Qo i j with h | h | h
   ·exact h
   ·subst h;exact absurd hDi hj
   ·refine absurd hDi (hafter i (hlex.slot j i o oi h ho hi ?_));have:zdj (zcs all o) (uG oi)=true:=zjr ht (by simp[uG,hd]);unfold zi9;simp[this]
  ·intro hij;refine hbefore i (hlex.slot i j oi o hij hi ho ?_);have:zdj (uG oi) (zcs all o)=true:=zjr (t:=t) (by simp[uG,hd]) ht;unfold zi9;simp[this]
 ·refine hI.keys k j m oM (λi hil hti=>?_) hlk;constructor
  ·intro hDi
   rcases Qo i j with h | h | h
   ·exact h
   ·subst h;exact absurd hDi hj
   ·exact absurd hDi (hafter i (hlex.mem j i h hil k (.inr ⟨hu,hti⟩)))
  ·intro hij;exact hbefore i (hlex.mem i j hij hjl k (.inl ⟨hti,.inl hu⟩))
 ·cases hq:ρ q with
  | none=>rfl
  | some v=>
   exfalso
   rcases hI.names _ v hq with h | ⟨i,h1,h2,h3,h4⟩
   ·have h5:=hlex.nk_mono (i:=0) (j:=j) oM oM;have h6:(T 0).nk=σ0.nk:=hlex.start.2.1;omega
   ·rcases Qo i j with h | h | h
    ·have:=hlex.nk_push h oM;omega
    ·subst h;exact hj h1
    ·have:=hlex.nk_push h oM;omega
theorem Inv.step (hlex:Lex P all E σ0 T s md run svs U) {D:Nat->Prop} {M:List (Nat×Mem)} {ρ:zk} {a:Act} {w:World} (hI:Inv all E σ0 T md D M ρ a w)
  {j:Nat} {o:Oper} (ho:all[j]? =some o) (hj:¬D j) (hedges:∀e∈o.after,Region.binds .any e=true->D e.on) {Q:Exit->Act->World->Prop} {K:Act->World->Prop}
  (hK:∀M ρ a w,Inv all E σ0 T md (λi=>i=j∨D i) M ρ a w->K a w):wpOp P all.toArray Q j K a w:=by
 have hjl:j < all.length:=(Xc.1 ho).1;obtain⟨h1,h2,h3⟩:=hI.sees hlex ho hj hedges;have hnt:=(hlex.nt (j:=j) oM).1
 have hw:Region.wanted o (yielded all.toArray a.tmps)=run j:=
  zlK (hlex.guard j o ho) (hI.size.trans hnt.symm) λt b ⟨g,want,hg,hd⟩ hl=>by
   obtain⟨h4,h5⟩:=h1 t (by simp[zcs,hg,hd]) _ hl;exact⟨hnt ▸ h4,h5.val_inv⟩
 have ho':all.toArray[j]? =some o:=by simpa using ho
 unfold wpOp;simp only[ho',hw]
 rcases hlex.step j o ho with⟨hrun,hst⟩ | ⟨hrun,hs,hm⟩
 ·simp only[hrun,if_true];have hev:=hst.ev (S:=λb=>E.Keep b∨Own M ρ b) (Pm:=Own M ρ) (ρ:=ρ) (a:=a) (w:=w) λt sv ht hl=>(h1 t (by simp[zcs,ht]) sv hl).2
  have hdo:qH P o a w (k8 E.Keep M ρ w (T j).nk (s j) (md j)):=by
   obtain⟨lm,hok,hlm⟩:=hst.ok;refine hok o rfl E.Keep M ρ a w (λk m hk=>h2 k m (hlm k m hk).1 (hlm k m hk).2) hI.mem h3 (λhp m hm=>?_) hev
   ·obtain⟨v,hv⟩:=(hI.mem.rel _ m hm).name;have hlt:(T j).nk < zaU (T j).nk (md j):=by cases hmd:md j <;> simp[hmd,zwh]at hp <;> simp[zaU]
    rw[h3 _ (Xh _) hlt]at hv;cases hv
  refine .inl (hdo.wp λv w' ha=>?_);obtain⟨M',ρ',h⟩:=hI.after hlex ho hj hedges ha;exact hK _ _ _ _ h
 ·simp only[hrun,KA,if_false];have ha:k8 E.Keep M ρ w (T j).nk (s j) (md j) undef w:=by rw[hs,hm];exact u1 hI.mem
  obtain⟨M',ρ',h⟩:=hI.after hlex ho hj hedges ha;exact hK _ _ _ _ h
theorem zej{ops:List Oper}{listed:Array Bool}:i∈Region.ready .any ops.toArray listed↔
  ∃o,ops[i]? =some o/\listed.getD i true=false/\∀e∈o.after,Region.binds .any e=true->listed.getD e.on false=true:=by
 unfold Region.ready;simp only[Jz,Kj,Kz,Xx,Jf];constructor
 ·rintro⟨h1,h2,h3⟩
  have ho:=Xb h1;refine⟨_,ho,h2,λe he hb=>?_⟩;rw[Yi,ho]at h3;simp only[K6,Qf]at h3;have:=Jd.1 h3 e he
  simpa[hb] using this
 ·rintro⟨o,ho,h2,h3⟩
  refine⟨(Xc.1 ho).1,h2,?_⟩;rw[Yi,ho];simp only[K6,Qf];refine Jd.2 λe he=>?_
  cases hb:Region.binds .any e with
  | false=>rfl
  | true=>simpa using h3 e he hb
theorem zus (hlex:Lex P all E σ0 T s md run svs U) {Q:Exit->Act->World->Prop}
  (hQ:∀D M ρ a w,(∀i,i < all.length->D i)->Inv all E σ0 T md D M ρ a w->Q .normal a w):∀(fuel:Nat) (listed:Array Bool) (M:List (Nat×Mem)) (ρ:zk) (a:Act) (w:World),
  listed.size=all.length->listed.toList.count false<=fuel->Inv all E σ0 T md (λi=>listed.getD i false=true) M ρ a w->wpAny P .any all.toArray Q fuel listed a w:=by
 have hlt:=hlex.edges
 have hdone:∀(listed:Array Bool),listed.size=all.length->Region.ready .any all.toArray listed=[]->∀i,i < all.length->listed.getD i false=true:=λlisted hsz hn i=>by
  induction i using Nat.strongRecOn with
  | _ i ih=>
   intro hi
   cases hb:listed.getD i false with
   | true=>rfl
   | false=>
    have ho:=Xb hi
    have:i∈Region.ready .any all.toArray listed:=zej.2 ⟨_,ho,by
     have hi':i < listed.size:=oM
     simp[Array.getD,hi']at hb ⊢;exact hb,λe he hbind=>by
      have:=hlt i _ ho e he hbind
      exact ih e.on this oM⟩
    rw[hn]at this;cases this
 intro fuel
 induction fuel with
 | zero=>
  intro listed M ρ a w hsz hc hI
  have hall:∀i,i < all.length->listed.getD i false=true:=λi hi=>by
   have hi':i < listed.size:=oM
   cases hb:listed.getD i false with
   | true=>rfl
   | false=>
    have:false∈listed.toList:=by
     simp[Array.getD,hi']at hb;rw[← hb];simp
    have:=Q7.2 this;omega
  refine⟨?_,hQ _ _ _ _ _ hall hI⟩
  cases hr:Region.ready .any all.toArray listed with
  | nil=>rfl
  | cons i r=>
   have hi:i∈Region.ready .any all.toArray listed:=by rw[hr];exact .head _
   obtain⟨o,ho,h2,_⟩:=zej.1 hi;have hil:=(Xc.1 ho).1;have h3:=hall i hil;have hi':i < listed.size:=oM;simp[Array.getD,hi']at h2 h3;rw[h2]at h3;cases h3
 | succ fuel ih=>
  intro listed M ρ a w hsz hc hI;refine⟨λhn=>hQ _ _ _ _ _ (hdone listed hsz hn) hI,λj hj=>?_⟩;obtain⟨o,ho,h2,h3⟩:=zej.1 hj;have hjl:=(Xc.1 ho).1;have hj':j < listed.size:=oM;have hjf:listed[j]=false:=by simpa[Array.getD,hj'] using h2
  refine hI.step hlex ho (by simp[Array.getD,hj',hjf]) h3 λM' ρ' a' w' hI'=>ih _ M' ρ' a' w' (by simpa using hsz) ?_ ?_
  ·have hmem:false∈listed.toList:=by rw[← hjf];simp
   have hpos:=Q7.2 hmem
   have:(listed.setIfInBounds j true).toList.count false=listed.toList.count false - 1:=by
    rw[QI,List.count_set (by simpa using hj')];simp[hjf]
   omega
  ·have:(λi=>(listed.setIfInBounds j true).getD i false=true)=λi=>i=j∨listed.getD i false=true:=by
    funext i
    apply propext
    by_cases e:j=i
    ·subst e;simp[Array.getD,hj']
    ·simp only[X2,KM e];constructor
     ·exact .inr
     ·rintro(h | h)
      ·exact absurd h.symm e
      ·exact h
   rw[this];exact hI'
end
end lex
section
variable{P:Program}{E:Env}{Q:Exit->Act->World->Prop}{K:St->Prop}{ops:Array Oper}{σ:St}{ρ:zk}{a:Act}{w:World}
theorem zlN
  (hr:Rel E σ ρ a w) (hlex0:∀w,Rel E σ ρ a w->∃T s md run svs U,Lex P ops.toList E σ T s md run svs U/\K (T ops.toList.length)) (hQ:∀σ ρ a w,K σ->Rel E σ ρ a w->Q .normal a w):wpAny P .any ops Q ops.size (Array.replicate ops.size false) a { w with drawn:=w.drawn+1 }:=by
 have hd:Stp (Own σ.M ρ) (Own σ.M ρ) ρ ρ w { w with drawn:=w.drawn+1 }:=⟨rfl,rfl,⟨rfl,λ_=>rfl⟩,Xh _,λ_ _ _=>rfl,λ_ h=>.inl h,λ_ _ h=>h⟩
 have hr1:Rel E σ ρ a { w with drawn:=w.drawn+1 }:=
  ⟨hr.size,hr.defers,λt s hl=>⟨(hr.regs t s hl).1,(hr.regs t s hl).2.stp hd⟩,⟨λk m h=>(hr.mem.rel k m h).keep hd rfl (λ_ _ _ _=>rfl),hr.mem.keys,hr.mem.apart,hr.mem.old,hr.mem.kp,hr.mem.glS hd⟩,hr.fresh,hr.stp.trans hd,hr.keep,hr.low⟩
 obtain⟨T,s,md,run,svs,U,hlex,hK⟩:=hlex0 _ hr1;have hsz:ops.size=ops.toList.length:=by simp
 have main:=zus (Q:=Q) hlex (λD M ρ' a' w' hD hI=>by
  have hn:=hlex.nt (j:=ops.toList.length) (Xh _)
  have hin:∀x∈(T ops.toList.length).M,x∈M:=λx hx=>by
   obtain⟨k,m⟩:=x;exact zA (hI.keys k _ m (Xh _) (λi hi _=>⟨λ_=>hi,λ_=>hD i hi⟩) (zur (hlex.pw _ (Xh _)) hx))
  obtain⟨hs,hmo⟩:=hI.mem.let_go (M1:=(T ops.toList.length).M) hin (hlex.pw _ (Xh _))
  ·refine hQ (T ops.toList.length) ρ' a' w' hK ⟨hI.size.trans hn.1.symm,hI.defers,λt sv hl=>?_,hmo,λk hk=>?_,hI.stp.trans hs,hr.keep,λk v hv=>hn.2 ▸ hr.low k v hv⟩
   ·obtain⟨h1,h2⟩:=hI.regs t ops.toList.length sv (Xh _) (λi o hi _=>⟨λ_=>(Xc.1 hi).1,λh=>hD i h⟩) hl;exact⟨hn.1.symm ▸ h1,h2.stp hs⟩
   ·cases hq:ρ' k with
    | none=>rfl
    | some v=>
     exfalso
     rcases hI.names k v hq with h | ⟨i,_,h2,h3,h4⟩
     ·have h5:=hlex.nk_mono (i:=0) (j:=ops.toList.length) oM (Xh _);have h6:(T 0).nk=σ.nk:=hlex.start.2.1;omega
     ·have:=hlex.nk_push h2 (Xh _);omega)
  ops.size (Array.replicate ops.size false) σ.M ρ a { w with drawn:=w.drawn+1 } (by simp) (by simp)
  ⟨hr1.size,hr1.defers,λi o hi=>by simp[Array.getD]at hi,hr1.mem,λt j sv hj hag hl=>?_,λk j m hj hag hl=>?_,λk v hv=>.inl ?_,hr1.stp⟩
 ·simpa using main
 ·have hno:∀i o,0<=i->i < j->ops.toList[i]? =some o->o.dst≠some t:=λi o _ h2 hi hd=>by
   have:=(hag i o hi hd).2 h2;simp[Array.getD]at this
  obtain⟨s1,hl1,hi1⟩:=hlex.look_chain (j0:=0) (Xe _) hj hno hl;obtain⟨s2,hl2,hi2⟩:=hlex.start.2.2.2.2 t s1 hl1;exact⟨(hr1.regs t s2 hl2).1,hi1 _ _ _ _ _ (hi2 _ _ _ _ _ (hr1.regs t s2 hl2).2)⟩
 ·have hno:∀i,0<=i->i < j->¬jg T md i k:=λi _ h2 ht=>by
   have:=(hag i oM ht).2 h2;simp[Array.getD]at this
  rw[hlex.lookM_chain (j0:=0) (Xe _) hj hno,hlex.start.1]at hl;exact hl
 ·by_cases hk:k < σ.nk
  ·exact hk
  ·rw[hr1.fresh k oM]at hv;cases hv
variable{all:List Oper}{md:Nat->MD}
theorem Lex0.lex{σ0:St}{T:Nat->St}{s:Nat->SV}{run:Nat->Bool}{svs:Nat->List SV}(h:Lex0 P all E σ0 0 T s md run svs)(hord:vq all=true):
  Lex P all E σ0 T s md run svs (λj k=>(∃o,all[j]? =some o/\zc2 o.op=true)/\k < (T j).nk):=by
 obtain⟨hedges,hconf⟩:=zrt hord
 have mdok:∀j o,all[j]? =some o->MdOK all j (T j).nk o.op (md j):=λj o ho=>by
  rcases h.step j o (Xe _) ho with⟨_,hs⟩ | ⟨_,_,hm⟩
  ·exact hs.md rfl
  ·exact .inr (.inl hm)
 have nk_next:∀j,j < all.length->(T (j+1)).nk=zaU (T j).nk (md j):=λj hj=>(h.next j _ (Xe _) (Xb hj)).2.1
 have nk_mono:∀i j,i<=j->j<=all.length->(T i).nk<=(T j).nk:=by
  intro i j
  induction j with
  | zero=>
    intro hij _;have:i=0:=oM;subst this;exact Xh _
  | succ j ih=>
   intro hij hj
   by_cases e:i=j+1
   ·subst e;exact Xh _
   ·have:=ih oM oM;rw[nk_next j oM];exact XB this (zsK _ _)
 have nk_lt:∀i j k,i < j->j<=all.length->jg T md i k->k < (T j).nk:=λi j k hij hj ht=>by
  have h1:=nk_mono (i+1) j oM hj;rw[nk_next i oM]at h1;have ho:=Xb (show i < all.length by omega);unfold jg at ht
  rcases mdok i _ ho with⟨_,⟨hd,hgv⟩,hk⟩ | hm | ⟨⟨m',hm⟩,_⟩
  ·cases hmd:md i <;> simp only[hmd]at ht h1 <;> simp only[zaU]at h1
   ·omega
   ·have:=hk _ _ (.inl hmd);omega
   ·exact absurd hmd (hd _)
   ·have:=hk _ _ (.inr hmd);omega
   ·rw[hmd]at hgv;cases hgv
  ·rw[hm]at ht;exact ht.elim
  ·rw[hm]at ht h1;simp only[zaU]at h1;have ht:k=(T i).nk:=ht;omega
 have wu:∀op:Op,isW op=true->zc2 op=true/\zdh op=true:=λop hW=>by
  cases op <;> first | exact⟨rfl,rfl⟩ | (simp[isW,zwd]at hW;done) | exact⟨rfl,by simpa[isW,zdh] using hW⟩
 have fwd:∀i j oi oj k,i < j->all[i]? =some oi->all[j]? =some oj->jg T md i k->zc2 oj.op=true->Anc all j i:=λi j oi oj k hij hi hj ht hu=>by
  rcases mdok i oi hi with⟨hW,_⟩ | hm | ⟨⟨m',hm⟩,hmt⟩
  ·exact hconf i j oi oj hij hi hj (by unfold zuh;simp[(wu _ hW).2,hu])
  ·unfold jg at ht;rw[hm]at ht;exact ht.elim
  ·rcases hmt with hmt | hmt
   ·exact hconf i j oi oj hij hi hj (by unfold zuh;simp[hmt,hu])
   ·exact zuq hmt j oj hij hj hu
 refine⟨h.start,λj o ho=>h.next j o (Xe _) ho,λj o ho=>h.dst j o (Xe _) ho,λj o ho=>h.guard j o (Xe _) ho,λj o ho=>?_,λj hj=>h.pw j (Xe _) hj,λj o ho=>?_,hedges,
  λi j oi oj hij hi hj hc=>hconf i j oi oj hij hi hj ?_,λi j hij hjl k hk=>?_⟩
 ·rcases h.step j o (Xe _) ho with⟨hr,hs⟩ | hs
  ·refine .inl ⟨hr,⟨_,hs.ok,λk m hk=>?_⟩,hs.ev⟩
   split at hk
   ·rename_i hu;exact⟨⟨⟨o,ho,hu⟩,(za1 hk).1⟩,(za1 hk).2⟩
   ·cases hk
  ·exact .inr hs
 ·rcases mdok j o ho with⟨_,⟨_,hgv⟩,_⟩ | hm | ⟨⟨m',hm⟩,_⟩
  ·cases hmd:md j <;> first | trivial | (rw[hmd]at hgv;cases hgv)
  ·rw[hm];trivial
  ·rw[hm];trivial
 ·unfold zi9 at hc;unfold zuh;simp only[Jw]at hc ⊢
  rcases hc with(hc | hc) | hc
  ·exact .inl (.inl (.inr hc))
  ·exact .inl (.inr hc)
  ·exact .inr hc
 ·have hi:=Xb (show i < all.length by omega);have hj:=Xb hjl
  have back:jg T md j k->k < (T j).nk->zc2 (all[j]).op=true/\isW (all[j]).op=true:=λht hk=>by
   rcases mdok j _ hj with⟨hW,_⟩ | hm | ⟨⟨m',hm⟩,_⟩
   ·exact⟨(wu _ hW).1,hW⟩
   ·unfold jg at ht;rw[hm]at ht;exact ht.elim
   ·unfold jg at ht;rw[hm]at ht;have ht:k=(T j).nk:=ht;omega
  rcases hk with⟨ht,hu | ht2⟩ | ⟨⟨⟨oi,hoi,hu⟩,hkl⟩,ht2⟩
  ·obtain⟨⟨oj,hoj,hu⟩,_⟩:=hu;exact fwd i j _ oj k hij hi hoj ht hu
  ·exact fwd i j _ _ k hij hi hj ht (back ht2 (nk_lt i j k hij oM ht)).1
  ·have hW:=(back ht2 (Xr hkl (nk_mono i j oM oM))).2;exact hconf i j oi _ hij hoi hj (by unfold zuh;simp[hu,hW])
theorem zdx {P:Program} {Γ:List (TypeId×TI)} (hT:TOK P Γ) {E:Env} {Q:Exit->Act->World->Prop} {K:St->Prop} {ops:Array Oper} {σ:St} {ρ:zk} {a:Act} {w:World}
  (hr:Rel E σ ρ a w) (hord:vq ops.toList=true) (h:vh P Γ true ops.toList ops.toList 0 σ K) (hQ:∀σ ρ a w,K σ->Rel E σ ρ a w->Q .normal a w):wpAny P .any ops Q ops.size (Array.replicate ops.size false) a { w with drawn:=w.drawn+1 }:=
 zlN hr (λw hr=>by
  obtain⟨T,s,md,run,svs,hlex,hK⟩:=zjs hT ops.toList 0 σ ρ a w (by simp) (λj=>by simp) hr h
  exact⟨T,s,md,run,svs,_,hlex.lex hord,hK⟩) hQ
variable{Γ:List (TypeId×TI)}{id:Nat}
theorem zru(hT:TOK P Γ) (hm:P.follows .mixedOrders=true)
  (hr:Rel E σ ρ a w) (hord:vq ops.toList=true) (h:vh P Γ true ops.toList ops.toList 0 σ K) (hQ:∀σ ρ a w,K σ->Rel E σ ρ a w->Q .normal a w):(Code.region id ops true).wp P Q a w:=
 wp_region_any hm (zdx hT hr hord h hQ)
theorem zut(h:zff all=true):(∀(j:Nat) (o:Oper),all[j]? =some o->∀e∈o.after,Region.binds .any e=true->e.on < j)/\
  ∀(i j:Nat) (oi oj:Oper),i < j->all[i]? =some oi->all[j]? =some oj->zi9 all oi oj=true->Anc all j i:=by
 unfold zff at h;simp only[Xx]at h;obtain⟨h1,h2⟩:=h;refine⟨λj o ho e he hb=>?_,λi j oi oj hij hi hj hc=>?_⟩
 ·have hjl:j < all.length:=(Xc.1 ho).1;have:=XN.1 h1 j (Kj.2 hjl);simp only[ho]at this;have:=XN.1 this e (by simpa using he);simp only[hb,Qq,QE]at this;exact Xw this
 ·have hjl:j < all.length:=(Xc.1 hj).1;have:=XN.1 h2 j (Kj.2 hjl);have:=XN.1 this i (Kj.2 hij);simp only[hi,hj,hc,Qq,Yt]at this;exact zdv all all.length j i hjl this
variable{i:Nat}
theorem zrv{T:Nat->St}{k:Nat}(h:jg T md i k):zeL k (zg2 (T i).nk (md i))=true:=by
 unfold jg at h;have one:∀x:Nat,k=x->∀l,zeL k (x::l)=true:=λx e l=>by subst e;simp[zeL,KU]
 have two:∀x l,zeL k l=true->zeL k (x::l)=true:=λx l e=>by simp only[zeL];split <;> simp_all
 cases hm:md i <;> simp only[hm]at h
 ·exact one _ h _
 ·exact one _ h _
 ·exact one _ h _
 ·rcases h with h | h
  ·exact one _ h _
  ·exact two _ _ (one _ h _)
 ·have mem:∀{l:List Nat},k∈l->zeL k l=true:=λ{l} hl=>by
   induction l with
   | nil=>cases hl
   | cons x r ih=>
    cases hl with
    | head=>exact one _ rfl _
    | tail _ h=>exact two _ _ (ih h)
  have rng:∀n:Nat,(T i).nk<=k->k < (T i).nk+n->k∈zrg (T i).nk n:=λn=>by
   induction n with
   | zero=>intro h1 h2;omega
   | succ n ih=>
    intro h1 h2
    by_cases e:k=(T i).nk+n
    ·subst e;exact .head _
    ·exact .tail _ (ih h1 oM)
  refine mem (Xo.2 ?_)
  rcases h with h | ⟨h1,h2⟩
  ·exact .inl h
  ·exact .inr (rng _ h1 h2)
theorem zjv{e:Ent}{k:Nat}:∀{l:List Nat},zeL k l=true->(zdo e.u e.nk k=true∨zeL k e.t=true)->zsA e l=true
 | [],h,_=>by cases h
 | x::r,h,hc=>by
  simp only[zeL]at h;simp only[zsA]
  split at h
  ·rename_i hb;have:=Xg hb;subst this
   rcases hc with hc | hc
   ·simp[hc]
   ·simp only[hc];split <;> rfl
  ·have:=zjv h hc;simp only[this]
   split
   ·rfl
   ·split <;> rfl
theorem zo1{x:Ent}{k:Nat}:∀{l:List Nat},zeL k l=true->zdo x.u x.nk k=true->zsB x l=true
 | [],h,_=>by cases h
 | y::r,h,hc=>by
  simp only[zeL]at h;simp only[zsB]
  split at h
  ·rename_i hb;have:=Xg hb;subst this;simp[hc]
  ·have:=zo1 h hc;simp only[this]
   split <;> rfl
theorem zo2{m:Nat}{e:Ent}:∀{r:List Ent},prOK m e r=true->∀(i:Nat) (x:Ent),i < r.length->r[r.length - 1 - i]? =some x->zoC x e=true->m.testBit i=true
 | [],_,i,x,hi,_,_=>by simp at hi
 | y::r,h,i,x,hi,hx,hc=>by
  simp only[prOK,Xx,Jw,Jf]at h;simp only[Xl]at hi hx
  by_cases e1:i=r.length
  ·subst e1;simp at hx;subst hx
   rcases h.1 with h | h
   ·exact h
   ·rw[hc]at h;cases h
  ·have:r.length+1 - 1 - i=(r.length - 1 - i)+1:=by omega
   rw[this,KL]at hx;exact zo2 h.2 i x oM hx hc
theorem zjw{ms:List Nat}:∀{A:List Ent},zi8 ms A=true->∀(i j:Nat) (x e:Ent),i < j->j < A.length->A[A.length - 1 - i]? =some x->A[A.length - 1 - j]? =some e->zoC x e=true->(ms.getD j 0).testBit i=true
 | [],_,i,j,x,e,_,hj,_,_,_=>by simp at hj
 | y::r,h,i,j,x,e,hij,hj,hx,he,hc=>by
  simp only[zi8,Xx]at h;simp only[Xl]at hj hx he;have hi:r.length+1 - 1 - i=(r.length - 1 - i)+1:=oM;rw[hi,KL]at hx
  by_cases e1:j=r.length
  ·subst e1;simp at he;subst he;exact zo2 h.1 i x hij hx hc
  ·have:r.length+1 - 1 - j=(r.length - 1 - j)+1:=by omega
   rw[this,KL]at he;exact zjw h.2 i j x e hij oM hx he hc
theorem zlO{k:Nat}:∀{l:List Nat},zra k l=true->k∈l
 | [],h=>(by cases h)
 | x::r,h=>by
  simp only[zra]at h
  split at h
  ·rename_i hb;have:=Xg hb;subst this;exact .head _
  ·exact .tail _ (zlO h)
theorem zlP{ks:List Nat}{κ nn:Nat}:∀{new:List (Nat×Mem)},newB ks κ nn new=true->∀k m,(k,m)∈new->k∈ks∨(κ<=k/\k < κ+nn)
 | [],_,k,m,h=>(by cases h)
 | (q,y)::r,hb,k,m,h=>by
  simp only[newB]at hb;obtain⟨h1,h2⟩:=ky hb
  cases h with
  | head=>
   simp only[Jw,Xx]at h1
   rcases h1 with h1 | h1
   ·exact .inl (zlO h1)
   ·exact .inr ⟨Xw h1.1,by simpa using h1.2⟩
  | tail _ h=>exact zlP h2 k m h
theorem zhX{k:Nat}:∀{new:List (Nat×Mem)},zmZ k new=true->∃m,(k,m)∈new
 | [],h=>(by cases h)
 | (q,y)::r,h=>by
  simp only[zmZ]at h
  split at h
  ·rename_i hb;have:=Xg hb;subst this;exact⟨y,.head _⟩
  ·obtain⟨m,hm⟩:=zhX h;exact⟨m,.tail _ hm⟩
theorem zhY{new:List (Nat×Mem)}{κ:Nat}:∀{n:Nat},zm0 new κ n=true->∀k,κ<=k->k < κ+n->∃m,(k,m)∈new
 | 0,_,k,h1,h2=>oM
 | n+1,h,k,h1,h2=>by
  simp only[zm0]at h;obtain⟨g1,g2⟩:=ky h
  by_cases e:k=κ+n
  ·subst e;exact zhX g1
  ·exact zhY g2 k h1 oM
theorem zwo{κ:Nat}{md:MD}{K:Prop}(h:mdD κ md K):K/\zcx κ md:=by
 unfold mdD at h
 split at h
 ·exact⟨(zi h).2,trivial⟩
 ·exact⟨(zi h).2,trivial⟩
 ·exact⟨(zi h).2,trivial⟩
 ·obtain⟨h1,h2⟩:=zi h;obtain⟨g1,g2⟩:=ky h1;exact⟨h2,zlP g1,zhY g2⟩
 ·refine⟨h,?_⟩;rename_i hn
  cases md <;> first | trivial | exact absurd rfl (hn _ _ _)
variable{lm:Nat->Option Mem}{m:Mem}
theorem zo3{u:Option (List Nat)}{nk:Nat}{k:Nat}(h:lmU u nk lm k=some m):zdo u nk k=true/\lm k=some m:=by
 unfold lmU at h
 split at h
 ·exact⟨‹_›,h⟩
 ·cases h
theorem zrw(hT:TOK P Γ) {o:Oper}{K:Ent->St->Prop}
  (hr:Rel E σ ρ a w) (h:zbt P Γ o σ K):∃svs s md,K ⟨zoB o.op svs,σ.nk,zg2 σ.nk md⟩ (σ.app o.dst s md)/\zjt P o σ svs s md (λk=>zdo (zoB o.op svs) σ.nk k=true)/\(∀t,o.dst=some t->t < σ.nt)/\zcx σ.nk md:=by
 unfold zbt at h;replace h:=zfe h;obtain⟨svs,h,hev⟩:=zfY h;have hg:=hev (a:=a) (λt s _ hl=>(hr.regs t s hl).2);have hlm:∀k m,lmU (zoB o.op svs) σ.nk (zdg σ.M σ.nk) k=some m->zX σ.M k=some m:=λk m h=>(za1 (zo3 h).2).2
 obtain⟨s,md,hK,hok⟩:=zha hT ⟨E.Keep,σ.M,ρ,w,_,hlm,hr.mem,hg⟩ h;obtain⟨hK,hmd⟩:=zwo (zdl (zdk hK));obtain⟨hd,hK⟩:=qK hK;exact⟨svs,s,md,hK,⟨⟨_,hok,λk m hk=>⟨(zo3 hk).1,hlm k m hk⟩⟩,hev⟩,hd,hmd⟩
theorem zjt.does{o:Oper}{svs:List SV} {s:SV} {md:MD} {U:Nat->Prop} (h:zjt P o σ svs s md U)
  (hr:Rel E σ ρ a w):qH P o a w (k8 E.Keep σ.M ρ w σ.nk s md):=by
 obtain⟨lm,hok,hlm⟩:=h.ok;exact hok o rfl E.Keep σ.M ρ a w (λk m hk=>(hlm k m hk).2) hr.mem (λk hk _=>hr.fresh k hk) (λ_=>hr.noKey) (h.ev λt s _ hl=>(hr.regs t s hl).2)
theorem zuu(hT:TOK P Γ){o:Oper} {r:List Oper}{acc:List Ent}
  (hr:Rel E σ ρ a w) (h:zaW P Γ all (o::r) i acc σ K):∃σ' run svs s md e,zaW P Γ all r (i+1) (e::acc) (σ'.app o.dst s md) K/\jf all σ' o run/\
   (σ'=σ∨∃t s0 s1,qe σ.L t=some s0/\(∀S Pm ρ w v,G S Pm ρ w s0 v->G S Pm ρ w s1 v)/\σ'=σ.put (some t) s1)/\(∀t,o.dst=some t->t < σ.nt)/\
   ((run=true/\zjt P o σ' svs s md (λk=>zdo e.u e.nk k=true)/\e.t=zg2 σ'.nk md)∨(run=false/\s=.val undef/\md=.none))/\zcx σ'.nk md:=by
 have run1:∀{σ':St},Rel E σ' ρ a w->zbt P Γ o σ' (λe σ=>zaW P Γ all r (i+1) (e::acc) σ K)->σ'.nt=σ.nt->∃svs s md e,zaW P Γ all r (i+1) (e::acc) (σ'.app o.dst s md) K/\(∀t,o.dst=some t->t < σ.nt)/\
   (zjt P o σ' svs s md (λk=>zdo e.u e.nk k=true)/\e.t=zg2 σ'.nk md)/\zcx σ'.nk md:=by
  intro σ' hr' h' hn;obtain⟨svs,s,md,h1,h2,h3,h4⟩:=zrw hT hr' h';exact⟨svs,s,md,_,h1,λt e=>hn ▸ h3 t e,⟨h2,rfl⟩,h4⟩
 simp only[zaW]at h
 split at h
 ·rename_i hg;obtain⟨svs,s,md,e,h1,h2,h3,h4⟩:=run1 hr h rfl;exact⟨σ,true,svs,s,md,e,h1,by simp[jf,hg],.inl rfl,h2,.inl ⟨rfl,h3⟩,h4⟩
 ·rename_i j want hg
  split at h
  ·exact h.elim
  ·rename_i t ht
   have gv:∀{σ':St} {v:Value},qe σ'.L t=some (.val v)->jf all σ' o (zsJ v want):=λhl=>by
    unfold jf;rw[hg];exact⟨t,_,ht,hl,rfl⟩
   have gi:∀{σ':St} {b:Bool},qe σ'.L t=some (.val (.bool b))->jf all σ' o (b==want):=λhl=>gv hl
   have put_look:∀(s1:SV),qe (σ.put (some t) s1).L t=some s1:=λs1=>by
    show qe ((t,s1)::σ.L) t=some s1;rw[kL];simp
   split at h
   ·rename_i hl
    split at h
    ·obtain⟨svs,s,md,e,h1,h2,h3,h4⟩:=run1 hr h rfl;exact⟨σ,_,svs,s,md,e,h1,gi hl,.inl rfl,h2,.inl ⟨rfl,h3⟩,h4⟩
    ·obtain⟨hd,h⟩:=qK h;exact⟨σ,_,[],_,_,_,h,gi hl,.inl rfl,hd,.inr ⟨rfl,rfl,rfl⟩,trivial⟩
   ·rename_i hl
    split at h
    ·obtain⟨svs,s,md,e,h1,h2,h3,h4⟩:=run1 hr h rfl;exact⟨σ,_,svs,s,md,e,h1,gi hl,.inl rfl,h2,.inl ⟨rfl,h3⟩,h4⟩
    ·obtain⟨hd,h⟩:=qK h;exact⟨σ,_,[],_,_,_,h,gi hl,.inl rfl,hd,.inr ⟨rfl,rfl,rfl⟩,trivial⟩
   ·rename_i p ip hl
    by_cases hp:p
    ·have hr':=hr.refine hl (zcw hp)
     split at h
     ·obtain⟨svs,s,md,e,h1,h2,h3,h4⟩:=run1 hr' (h.yes hp) rfl;exact⟨_,_,svs,s,md,e,h1,gi (put_look _),.inr ⟨t,_,_,hl,zcw hp,rfl⟩,h2,.inl ⟨rfl,h3⟩,h4⟩
     ·obtain⟨hd,h⟩:=qK (h.yes hp);exact⟨_,_,[],_,_,_,h,gi (put_look _),.inr ⟨t,_,_,hl,zcw hp,rfl⟩,hd,.inr ⟨rfl,rfl,rfl⟩,trivial⟩
    ·have hr':=hr.refine hl (za2 hp)
     split at h
     ·obtain⟨hd,h⟩:=qK (h.no hp);exact⟨_,_,[],_,_,_,h,gi (put_look _),.inr ⟨t,_,_,hl,za2 hp,rfl⟩,hd,.inr ⟨rfl,rfl,rfl⟩,trivial⟩
     ·obtain⟨svs,s,md,e,h1,h2,h3,h4⟩:=run1 hr' (h.no hp) rfl;exact⟨_,_,svs,s,md,e,h1,gi (put_look _),.inr ⟨t,_,_,hl,za2 hp,rfl⟩,h2,.inl ⟨rfl,h3⟩,h4⟩
   ·rename_i hl;obtain⟨hd,h⟩:=qK h;exact⟨σ,_,[],_,_,_,h,gv hl,.inl rfl,hd,.inr ⟨rfl,rfl,rfl⟩,trivial⟩
   ·exact h.elim
structure Lex1 (P:Program) (all:List Oper) (E:Env) (σ0:St) (i0:Nat) (T:Nat->St) (s:Nat->SV) (md:Nat->MD) (run:Nat->Bool) (svs:Nat->List SV) (ent:Nat->Ent):Prop where
 start:zeO (T i0) σ0
 next:∀(j:Nat) (o:Oper),i0<=j->all[j]? =some o->zeO (T (j+1)) ((T j).app o.dst (s j) (md j))
 dst:∀(j:Nat) (o:Oper),i0<=j->all[j]? =some o->∀t,o.dst=some t->t < σ0.nt
 guard:∀(j:Nat) (o:Oper),i0<=j->all[j]? =some o->jf all (T j) o (run j)
 step:∀(j:Nat) (o:Oper),i0<=j->all[j]? =some o->(run j=true/\zjt P o (T j) (svs j) (s j) (md j) (λk=>zdo (ent j).u (ent j).nk k=true)/\(ent j).t=zg2 (T j).nk (md j))∨
  (run j=false/\s j=.val undef/\md j=.none)
 pw:∀j:Nat,i0<=j->j<=all.length->(T j).M.Pairwise λa b=>a.1≠b.1
 nodrop:∀(j:Nat) (o:Oper),i0<=j->all[j]? =some o->zcx (T j).nk (md j)
theorem zhZ{P:Program}{Γ:List (TypeId×TI)}(hT:TOK P Γ){all:List Oper}{E:Env}{K:St->Prop}:∀(l:List Oper) (i:Nat) (acc:List Ent) (σ:St) (ρ:zk) (a:Act) (w:World),i+l.length=all.length->
  (∀j:Nat,l[j]? =all[i+j]?)->acc.length=i->Rel E σ ρ a w->zaW P Γ all l i acc σ K->∃T s md run svs ent A,Lex1 P all E σ i T s md run svs ent/\K (T all.length)/\zi8 (zbr all all.length) A=true/\
   A.length=all.length/\(∃B,A=B++acc)/\∀j:Nat,i<=j->j < all.length->A[all.length - 1 - j]? =some (ent j)
 | [],i,acc,σ,ρ,a,w,hlen,hl,hacc,hr,h=>by
  have hi:i=all.length:=by simpa using hlen
  subst hi;refine⟨λ_=>σ,λ_=>.junk,λ_=>.none,λ_=>false,λ_=>[],λ_=>zlA,acc,⟨.refl,?_,?_,?_,?_,λ_ _ _=>hr.mem.keys,?_⟩,h.go,h.ob,hacc,⟨[],rfl⟩,λj h1 h2=>by omega⟩ <;>
  ·intro j o hj ho;have:=(Xc.1 ho).1;omega
 | o::r,i,acc,σ,ρ,a,w,hlen,hl,hacc,hr,h=>by
  have h0:all[i]? =some o:=by simpa using (hl 0).symm
  obtain⟨σ',run0,svs0,s0,md0,e0,h1,hg,href,hd,hrun,hnd⟩:=zuu hT hr h
  have hr':Rel E σ' ρ a w:=by
   rcases href with rfl | ⟨t,s0,s1,h2,h3,rfl⟩
   ·exact hr
   ·exact hr.refine h2 h3
  have hnt:σ'.nt=σ.nt:=by rcases href with rfl | ⟨t,s0,s1,h2,h3,rfl⟩ <;> rfl
  have href':zeO σ' σ:=by
   rcases href with rfl | ⟨t,s2,s1,h2,h3,rfl⟩
   ·exact .refl
   ·refine⟨rfl,rfl,rfl,rfl,λt' s' hl'=>?_⟩;have hl':(if t=t' then some s1 else qe σ.L t')=some s':=by rw[← kL];exact hl'
    by_cases e:t=t'
    ·subst e;rw[if_pos rfl]at hl';cases hl'
     exact⟨s2,h2,h3⟩
    ·rw[if_neg e]at hl';exact⟨s',hl',λ_ _ _ _ _ h=>h⟩
  have hnext:∃ρ1 a1 w1,Rel E (σ'.app o.dst s0 md0) ρ1 a1 w1:=by
   rcases hrun with⟨_,hst,_⟩ | ⟨_,rfl,rfl⟩
   ·obtain⟨v,w1,ha⟩:=(hst.does hr').ex;obtain⟨ρ1,hr1⟩:=hr'.app (λt e=>hnt ▸ hd t e) ha;exact⟨ρ1,_,w1,hr1⟩
   ·obtain⟨ρ1,hr1⟩:=hr'.app (λt e=>hnt ▸ hd t e) (u1 hr'.mem);exact⟨ρ1,_,w,hr1⟩
  obtain⟨ρ1,a1,w1,hr1⟩:=hnext;obtain⟨T,s,md,run,svs,ent,A,hlex,hK,hA,hAl,⟨B,hB⟩,hAe⟩:=zhZ hT r (i+1) (e0::acc) _ ρ1 a1 w1 (by simp at hlen;omega) (λj=>by have:=hl (j+1);simpa[KN,J6 1 j] using this) (by simp[hacc]) hr1 h1;have hapn:(σ'.app o.dst s0 md0).nt=σ.nt:=hnt;have hil:i < all.length:=(Xc.1 h0).1
  refine⟨λj=>if j=i then σ' else T j,λj=>if j=i then s0 else s j,λj=>if j=i then md0 else md j,λj=>if j=i then run0 else run j,λj=>if j=i then svs0 else svs j,λj=>if j=i then e0 else ent j,A,
   ⟨by simpa using href',?_,?_,?_,?_,?_,?_⟩,by simpa[show all.length≠i by omega] using hK,hA,hAl,⟨B++[e0],by simp[hB]⟩,?_⟩
  ·intro j oj hj ho
   by_cases e:j=i
   ·subst e;rw[h0]at ho;cases ho
    simpa using hlex.start
   ·have:=hlex.next j oj oM ho
    simpa[e,show j+1≠i by omega] using this
  ·intro j oj hj ho t ht
   by_cases e:j=i
   ·subst e;rw[h0]at ho;cases ho
    exact hd t ht
   ·exact hapn ▸ hlex.dst j oj oM ho t ht
  ·intro j oj hj ho
   by_cases e:j=i
   ·subst e;rw[h0]at ho;cases ho
    simpa using hg
   ·simpa[e] using hlex.guard j oj oM ho
  ·intro j oj hj ho
   by_cases e:j=i
   ·subst e;rw[h0]at ho;cases ho
    simpa using hrun
   ·simpa[e] using hlex.step j oj oM ho
  ·intro j hj hjl
   by_cases e:j=i
   ·subst e
    simpa using hr'.mem.keys
   ·simpa[e] using hlex.pw j oM hjl
  ·intro j oj hj ho
   by_cases e:j=i
   ·subst e
    simpa using hnd
   ·simpa[e] using hlex.nodrop j oj oM ho
  ·intro j hj hjl
   by_cases e:j=i
   ·subst e
    have hBl:B.length=all.length - 1 - j:=by
     have:=congrArg List.length hB;simp[hAl,hacc]at this;omega
    simp only[if_true];rw[hB,XA oM,hBl];simp
   ·simpa[e] using hAe j oM hjl
theorem zf2(hT:TOK P Γ)
  (hr:Rel E σ ρ a w) (hord:zff ops.toList=true) (h:zaW P Γ ops.toList ops.toList 0 [] σ K) (hQ:∀σ ρ a w,K σ->Rel E σ ρ a w->Q .normal a w):wpAny P .any ops Q ops.size (Array.replicate ops.size false) a { w with drawn:=w.drawn+1 }:=
 zlN hr (λw hr=>by
  obtain⟨T,s,md,run,svs,ent,A,hlex,hK,hA,hAl,_,hAe⟩:=zhZ hT ops.toList 0 [] σ ρ a w (by simp) (λj=>by simp) rfl hr h;obtain⟨hedges,hslot⟩:=zut hord
  refine⟨T,s,md,run,svs,λj k=>zdo (ent j).u (ent j).nk k=true/\run j=true,⟨hlex.start,λj o ho=>hlex.next j o (Xe _) ho,λj o ho=>hlex.dst j o (Xe _) ho,λj o ho=>hlex.guard j o (Xe _) ho,
   λj o ho=>?_,λj hj=>hlex.pw j (Xe _) hj,λj o ho=>hlex.nodrop j o (Xe _) ho,hedges,hslot,λi j hij hjl k hk=>?_⟩,hK⟩
  ·rcases hlex.step j o (Xe _) ho with⟨h1,h2,_⟩ | h1
   ·obtain⟨lm,h3,h4⟩:=h2.ok;exact .inl ⟨h1,⟨lm,h3,λk m hk=>⟨⟨(h4 k m hk).1,h1⟩,(h4 k m hk).2⟩⟩,h2.ev⟩
   ·exact .inr h1
  ·have tch:∀q:Nat,q < ops.toList.length->jg T md q k->zeL k (ent q).t=true:=λq hq ht=>by
    rcases hlex.step q _ (Xe _) (Xb hq) with⟨_,_,h3⟩ | ⟨_,_,h3⟩
    ·rw[h3];exact zrv ht
    ·unfold jg at ht;rw[h3]at ht;exact ht.elim
   have hc:zoC (ent i) (ent j)=true:=by
    unfold zoC
    rcases hk with⟨ht,hu | ht2⟩ | ⟨hu,ht2⟩
    ·rw[zjv (tch i oM ht) (.inl hu.1)]
    ·rw[zjv (tch i oM ht) (.inr (tch j hjl ht2))]
    ·rw[zo1 (tch j hjl ht2) hu.1];split <;> rfl
   have h1:=hAe i (Xe _) oM;have h2:=hAe j (Xe _) hjl;rw[← hAl]at h1 h2
   exact zdv _ _ j i hjl (zjw hA i j _ _ hij oM h1 h2 hc)) hQ
theorem zo4(hT:TOK P Γ) (hm:P.follows .mixedOrders=true)
  (hr:Rel E σ ρ a w) (hord:zff ops.toList=true) (h:zaW P Γ ops.toList ops.toList 0 [] σ K) (hQ:∀σ ρ a w,K σ->Rel E σ ρ a w->Q .normal a w):(Code.region id ops true).wp P Q a w:=
 wp_region_any hm (zf2 hT hr hord h hQ)
def u3(E:Env)(Q:Ex->St->Prop):Exit->Act->World->Prop
 | .normal,a,w=>∃σ ρ,Q .normal σ/\Rel E σ ρ a w
 | .exit id,a,w=>∃σ ρ,Q (.exit id) σ/\Rel E σ ρ a w
 | .ret,a,w=>∃σ ρ,Q .ret σ/\Rel E σ ρ a w
 | _,_,_=>False
theorem kX{P:Program}{Γ:List (TypeId×TI)}(hT:TOK P Γ)(hm:P.follows .mixedOrders=true){E:Env}:∀(c:Code) {σ:St} {Q:Ex->St->Prop} {ρ:zk} {a:Act} {w:World},
  Rel E σ ρ a w->jP P Γ c σ Q->c.wp P (u3 E Q) a w
 | .skip,σ,Q,ρ,a,w,hr,h=>wp_skip ⟨σ,ρ,h,hr⟩
 | .region id ops draw,σ,Q,ρ,a,w,hr,h=>by
  cases draw with
  | false=>
   have h:vh P Γ false ops.toList ops.toList 0 σ (Q .normal):=h;refine wp_region_list ?_;have:=ziE (Q:=u3 E Q) hT (λσ ρ a w h hr=>⟨σ,ρ,h,hr⟩) hr h
   simpa using this
  | true=>
   have h:Dr (vq ops.toList=true) (vh P Γ true ops.toList ops.toList 0 σ (Q .normal)) (Ob (zff ops.toList=true) (zaW P Γ ops.toList ops.toList 0 [] σ (Q .normal))):=h
   rcases h with⟨h1,h2⟩ | ⟨h1,h2⟩
   ·exact zru hT hm hr h1 h2 λσ ρ a w h hr=>⟨σ,ρ,h,hr⟩
   ·exact zo4 hT hm hr h1 h2 λσ ρ a w h hr=>⟨σ,ρ,h,hr⟩
 | .seq x y,σ,Q,ρ,a,w,hr,h=>by
  refine wp_seq (Code.wp_mono (λe a' w' hq=>?_) (kX hT hm x hr h))
  cases e with
  | normal=>obtain⟨σ',ρ',h',hr'⟩:=hq;exact kX hT hm y hr' h'
  | exit id=>exact hq
  | ret=>exact hq
  | _=>exact hq.elim
 | .cond c x y,σ,Q,ρ,a,w,hr,h=>by
  obtain⟨s,h,hs⟩:=zeh h;have hg:=hs (a:=a) (λt s _ hl=>(hr.regs t s hl).2)
  split at h
  ·exact wp_cond_true hg.val_inv (kX hT hm x hr h)
  ·exact wp_cond_false hg.val_inv (kX hT hm y hr h)
  ·rename_i p i
   by_cases hp:p
   ·exact wp_cond_true (by rw[hg.pr_inv];simp[hp]) (kX hT hm x hr (h.yes hp))
   ·exact wp_cond_false (by rw[hg.pr_inv];simp[hp]) (kX hT hm y hr (h.no hp))
  ·obtain⟨b,hb⟩:=hg.anyb_inv
   cases b with
   | true=>exact wp_cond_true hb (kX hT hm x hr h.yes)
   | false=>exact wp_cond_false hb (kX hT hm y hr h.no)
  ·exact h.elim
 | .block id c,σ,Q,ρ,a,w,hr,h=>by
  refine wp_block (Code.wp_mono (λe a' w' hq=>?_) (kX hT hm c hr h))
  cases e with
  | normal=>exact hq
  | exit j=>
   obtain⟨σ',ρ',h',hr'⟩:=hq;dsimp only at h';show(if j=id then u3 E Q .normal a' w' else u3 E Q (.exit j) a' w')
   split at h'
   ·rename_i hb;rw[if_pos (Xg hb)];exact⟨σ',ρ',h',hr'⟩
   ·rename_i hb;rw[if_neg (KH hb)];exact⟨σ',ρ',h',hr'⟩
  | ret=>exact hq
  | _=>exact hq.elim
 | .loop c,σ,Q,ρ,a,w,hr,h=>by
  obtain⟨ι,S,I,μ,x0,h0,hsub,hround⟩:=h;obtain⟨ρ0,hr0⟩:=hsub E ρ a w hr;refine wp_loop_ghost (λn a w=>∃x ρ,I x/\μ x=n/\Rel E (S x) ρ a w) (μ x0) ⟨x0,ρ0,h0,rfl,hr0⟩ λn a w hI=>?_
  obtain⟨x,ρ1,h1,rfl,hr1⟩:=hI;refine Code.wp_mono (λe a' w' hq=>?_) (kX hT hm c hr1 (hround x h1))
  cases e with
  | normal=>
   obtain⟨σ',ρ',⟨x',h2,hs2,hlt⟩,hr'⟩:=hq;obtain⟨ρ2,hr2⟩:=hs2 E ρ' a' w' hr';exact⟨μ x',hlt,x',ρ2,h2,rfl,hr2⟩
  | exit id=>exact hq
  | ret=>exact hq
  | _=>exact hq.elim
 | .exit id,σ,Q,ρ,a,w,hr,h=>wp_exit ⟨σ,ρ,h,hr⟩
 | .ret,σ,Q,ρ,a,w,hr,h=>wp_ret ⟨σ,ρ,h,hr⟩
 | .rangeFunc _ _ _ _,_,_,_,_,_,_,h=>by cases h
 | .scope c,σ,Q,ρ,a,w,hr,h=>by
  refine wp_scope_straight (Code.wp_mono (λe a' w' hq=>?_) (kX hT hm c hr h))
  cases e with
  | normal=>exact hq
  | exit j=>exact hq
  | ret=>exact hq
  | _=>exact hq.elim
 | .label _,σ,Q,ρ,a,w,hr,h=>wp_label ⟨σ,ρ,h,hr⟩
 | .goto _,_,_,_,_,_,_,h=>by cases h
 | .refuse _,_,_,_,_,_,_,h=>by cases h
theorem zo5(hT:TOK P Γ){x:ResultVar}{K:SV->Prop}(h:zrh σ Γ x K):∃s,K s/\∀{E:Env} {ρ:zk} {a:Act} {w:World},Rel E σ ρ a w->
  ∃v,((match x with | .tmp t=>pure (a.tmps.getD t undef) | .cell ad t=>do loadVar t (← asAddr (a.tmps.getD ad undef)):Sem Value)).run P w=.ok v w/\G (λb=>E.Keep b∨Own σ.M ρ b) (Own σ.M ρ) ρ w s v:=by
 unfold zrh at h
 split at h
 ·split at h
  ·rename_i s hs;exact⟨s,qJ h,λhr=>⟨_,rfl,(hr.regs _ s hs).2⟩⟩
  ·exact h.elim
 ·rename_i ad t;replace h:=zt h;obtain⟨i,hi,h⟩:=h
  split at h
  ·rename_i k off hl
   split at h
   ·rename_i T cs hlk;replace h:=zi h;obtain⟨hle,h⟩:=h;replace h:=uN h;obtain⟨s,hK,h⟩:=h;have hle:=Xw hle;refine⟨s,hK,λ{E ρ a w} hr=>?_⟩;obtain⟨b,vs,hρ,hheap,hlen,_,hcells⟩:=hr.mem.rel k _ (zA hlk);obtain⟨b',hρ',hx⟩:=(hr.regs ad _ hl).2.loc_inv;rw[hρ]at hρ';cases hρ'
    have hg:Gs (λb=>E.Keep b∨Own σ.M ρ b) (Own σ.M ρ) ρ w (cs.drop off) (vs.drop off):=Gs.drop off ⟨hlen,hcells⟩;obtain⟨v,h1,h2⟩:=zbS (hT t i hi) (b:=b) (o:=off) hg (λj v hv=>by rw[zfP hheap];simpa using hv) (by simp;omega) h;exact⟨v,by simp only[hx,asAddr,Sem.run_bind,Sem.run_pure,Result.andThen_ok,h1],h2⟩
   ·exact h.elim
  ·exact h.elim
theorem zh0{P:Program}{Γ:List (TypeId×TI)}(hT:TOK P Γ){σ:St}:∀{xs:List ResultVar} {K:List SV->Prop},zwf σ Γ xs K->∃l,K l/\∀{E:Env} {ρ:zk} {a:Act} {w:World},Rel E σ ρ a w->
  ∃vs,(xs.mapM λx=>(match x with | .tmp t=>pure (a.tmps.getD t undef) | .cell ad t=>do loadVar t (← asAddr (a.tmps.getD ad undef)):Sem Value)).run P w=.ok vs w/\Gs (λb=>E.Keep b∨Own σ.M ρ b) (Own σ.M ρ) ρ w l vs
 | [],K,h=>⟨[],h,λ_=>⟨[],rfl,.nil⟩⟩
 | x::xs,K,h=>by
  obtain⟨s,h,h1⟩:=zo5 hT h;obtain⟨l,h,h2⟩:=zh0 hT h;refine⟨s::l,h,λ{E ρ a w} hr=>?_⟩;obtain⟨v,g1,g2⟩:=h1 hr;obtain⟨vs,g3,g4⟩:=h2 hr;exact⟨v::vs,by rw[List.mapM_cons,Sem.run_bind,g1,Result.andThen_ok,Sem.run_bind,g3,Result.andThen_ok,Sem.run_pure],.cons g2 g4⟩
variable{fn:Func}
theorem yw(hT:TOK P Γ){K:SV->Prop}(h:zbQ σ Γ fn.results.toList K):∃s,K s/\∀{E:Env} {ρ:zk} {a:Act} {w:World},Rel E σ ρ a w->
  ∃v,(results fn a.tmps).run P w=.ok v w/\G (λb=>E.Keep b∨Own σ.M ρ b) (Own σ.M ρ) ρ w s v:=by
 unfold zbQ at h;obtain⟨l,h,h1⟩:=zh0 hT h
 have run:∀{a:Act} {w:World} {vs:List Value},(fn.results.toList.mapM λx=>(match x with | .tmp t=>pure (a.tmps.getD t undef) | .cell ad t=>do loadVar t (← asAddr (a.tmps.getD ad undef)):Sem Value)).run P w=.ok vs w->
   (results fn a.tmps).run P w=.ok (if h:vs.toArray.size=1 then vs.toArray[0] else .tuple vs.toArray) w:=by
  intro a w vs hv
  have e:(fn.results.mapM λx=>(match x with | .tmp t=>pure (a.tmps.getD t undef) | .cell ad t=>do loadVar t (← asAddr (a.tmps.getD ad undef)):Sem Value)).run P w=.ok vs.toArray w:=by
   rw[Array.mapM_eq_mapM_toList,Sem.run_map,hv];rfl
  unfold results;rw[Sem.run_bind]
  erw [e]
  rfl
 split at h
 ·rename_i s;refine⟨s,h,λ{E ρ a w} hr=>?_⟩;obtain⟨vs,g1,g2⟩:=h1 hr;obtain⟨v,vs',rfl,g3,g4⟩:=g2.cons_inv;rw[g4.nil_inv]at g1;exact⟨v,by rw[run g1];rfl,g3⟩
 ·rename_i hne;refine⟨_,h,λ{E ρ a w} hr=>?_⟩;obtain⟨vs,g1,g2⟩:=h1 hr;refine⟨.tuple vs.toArray,?_,.tup _ vs g2.1 g2.2⟩;rw[run g1]
  have hl:¬vs.toArray.size=1:=by
   intro e;have:l.length=1:=by rw[← g2.1];simpa using e
   match l,this with
   | [s],_=>exact hne s rfl
  rw[dif_neg hl]
theorem zh1:∀(l:List SV) (n t:Nat),qe (yf n l) t=if n<=t then l[t - n]? else none
 | [],n,t=>by simp[yf,qe]
 | s::l,n,t=>by
  simp only[yf,kL,zh1 l (n+1) t]
  by_cases h:n=t
  ·subst h;simp
  ·rw[if_neg h]
   by_cases h2:n<=t
   ·rw[if_pos oM,if_pos h2,show t - n=(t - (n+1))+1 by omega,KL]
   ·rw[if_neg oM,if_neg h2]
variable{M:List (Nat×Mem)}{S':Nat->Prop}{Pm':Nat->Prop}{ρ':zk}
theorem znk{Keep:Nat->Prop}(hlm:∀k m,lm k=some m->(k,m)∈M) (hm:zO Keep M ρ w)
  (hsub:∀b,S' b->Keep b∨Own M ρ b) {s:SV} {v:Value} (hg:G (λb=>Keep b∨Own M ρ b) (Own M ρ) ρ w s v) (hc:∀b,Own M ρ b->¬S' b)(hP:∀b,¬Pm' b):
  G S' Pm' ρ' w (zlB lm s) v:=by
 unfold zlB
 split
 ·rename_i cs;obtain⟨vs,rfl,hvs⟩:=hg.tup_inv;have h:=zjf (S':=S') (Pm':=Pm') (ρ':=ρ') hlm hm hsub (λb _=>hP b) (λ_ _ b _ _=>hP b) hvs (.inr hc);exact .tup _ vs h.1 h.2
 ·exact zne hlm hm hsub hg (.inr hc) (λb _=>hP b) (λ_ _ b _ _=>hP b)
theorem zaL {Keep:Nat->Prop} {M:List (Nat×Mem)} {ρ:zk} {w:World} {args:List SV} {vs:List Value} {nt:Nat} (hm:zO Keep M ρ w) (hρ:∀k,M.length<=k->ρ k=none)
  (hg:Gs (λb=>Keep b∨Own M ρ b) (Own M ρ) ρ w args vs) (hle:args.length<=nt):
  Rel ⟨w,ρ,Keep,Own M ρ,[]⟩ ⟨yf 0 args,M,M.length,nt,M.length⟩ ρ { tmps:=vs.toArray++Array.replicate (nt - vs.toArray.size) undef,defers:=[] } w:=by
 have hl:=hg.1;refine⟨by simp;omega,rfl,λt s h=>?_,hm,hρ,.refl,hm.kp,λk v h=>?_⟩;rotate_left
 ·rcases Qe k M.length with h1 | h1
  ·exact h1
  ·have h:ρ k=some v:=h;rw[hρ k h1]at h;cases h
 have h:qe (yf 0 args) t=some s:=h;rw[zh1]at h;simp only[Xe,if_true,YA]at h;have hlt:=(Xc.1 h).1;refine⟨show t < nt by omega,hg.2 t s _ h ?_⟩;have:t < vs.length:=oM
 have e:(vs.toArray++Array.replicate (nt - vs.toArray.size) undef)[t]? =some vs[t]:=by
  rw[JH (by simpa using this)];simp[this]
 rw[Xb this,X2,e];rfl
theorem Sub.refl{σ:St}:Sub σ σ:=λ_ ρ _ _ hr=>⟨ρ,hr⟩
variable{f:FuncId}{c:Code}{r:SV}
theorem zaM(hT:TOK P Γ) (hm:P.follows .mixedOrders=true){args:List SV}{Q:Ex->St->Prop}
  (hf:P.funcs[f]? =some fn) (hb:fn.body=some c) (hn:(fn.name== "runtime.NumGoroutine")=false) (hle:Nat.ble args.length fn.ntmps=true)
  (h:jP P Γ c ⟨yf 0 args,M,M.length,fn.ntmps,M.length⟩ Q){M':List (Nat×Mem)} {Q':Ex->St->Prop} (hS:∀e σ,Q e σ->∃σ',Sub σ σ'/\Q' e σ')
  (hQ:∀e σ,Q' e σ->(∀id,e≠.exit id)->∃s,(∀{E:Env} {ρ:zk} {a:Act} {w:World},Rel E σ ρ a w->∃v,(results fn a.tmps).run P w=.ok v w/\G (λb=>E.Keep b∨Own σ.M ρ b) (Own σ.M ρ) ρ w s v)/\
   ∀{E:Env} {ρ:zk} {a:Act} {w:World} {v:Value},Rel E σ ρ a w->(∀b,E.W0 b↔Own M E.ρ0 b)->(∀k,M.length<=k->E.ρ0 k=none)->G (λb=>E.Keep b∨Own σ.M ρ b) (Own σ.M ρ) ρ w s v->
    ∃ρ',Stp (Own M E.ρ0) (Own M' ρ') E.ρ0 ρ' E.w0 w/\zO E.Keep M' ρ' w/\G (λb=>E.Keep b∨Own M' ρ' b) (Own M' ρ') ρ' w r v)
  (hx:∀id σ,¬Q' (.exit id) σ):qI P f args M r M':=by
 refine⟨⟨fn,hf,hn,by rw[hb];rfl⟩,λKeep ρ w vs _ hmem hρ hg=>calls_of_wp hf hb ?_⟩;have hrel:=zaL (nt:=fn.ntmps) hmem hρ hg (Xw hle);refine Code.wp_mono (λe a' w' hq=>?_) (kX hT hm c hrel h)
 have fin:∀e σ ρ1,Q e σ->(∀id,e≠.exit id)->Rel ⟨w,ρ,Keep,Own M ρ,[]⟩ σ ρ1 a' w'->a'.defers=[]/\∃v,(results fn a'.tmps).run P w'=.ok v w'/\∃v' ρ',Ending.returned v=.returned v'/\Stp (Own M ρ) (Own M' ρ') ρ ρ' w w'/\
   zO Keep M' ρ' w'/\G (λb=>Keep b∨Own M' ρ' b) (Own M' ρ') ρ' w' r v':=by
  intro e σ0 ρ0 hq0 he hr0;obtain⟨σ,hsub,hq⟩:=hS e σ0 hq0;obtain⟨ρ1,hr⟩:=hsub _ _ _ _ hr0;obtain⟨s,h1,h2⟩:=hQ e σ hq he;obtain⟨v,g1,g2⟩:=h1 hr;obtain⟨ρ',g3,g4,g5⟩:=h2 hr (λ_=>K7) hρ g2;exact⟨hr.defers,v,g1,v,ρ',rfl,g3,g4,g5⟩
 cases e with
 | normal=>obtain⟨σ,ρ1,hq,hr⟩:=hq;exact fin _ σ ρ1 hq (λ_=>by simp) hr
 | ret=>obtain⟨σ,ρ1,hq,hr⟩:=hq;exact fin _ σ ρ1 hq (λ_=>by simp) hr
 | exit id=>obtain⟨σ,ρ1,hq,hr⟩:=hq;obtain⟨σ',_,hq'⟩:=hS _ σ hq;exact(hx id σ' hq').elim
 | _=>exact hq.elim
theorem zwp(hT:TOK P Γ) (hm:P.follows .mixedOrders=true){args:List SV}
  (hf:P.funcs[f]? =some fn) (hb:fn.body=some c) (hn:(fn.name== "runtime.NumGoroutine")=false) (hle:Nat.ble args.length fn.ntmps=true)
  (h:jP P Γ c ⟨yf 0 args,[],0,fn.ntmps,0⟩ (endV Γ fn.results.toList r)):qI P f args [] r []:=by
 refine zaM hT hm hf hb hn hle h (λe σ h=>⟨σ,.refl,h⟩) (λe σ hq he=>?_) (λid σ hq=>hq)
 have hq:zbQ σ Γ fn.results.toList λs=>LE (zlB (zX σ.M) s) r:=by
  cases e with
  | exit id=>exact absurd rfl (he id)
  | normal=>exact hq
  | ret=>exact hq
 obtain⟨s,hle,h1⟩:=yw hT hq;refine⟨s,h1,λ{E ρ a w v} hr hW _ hg=>⟨ρ,?_,?_,?_⟩⟩
 ·have hs:=hr.stp;exact⟨hs.os,hs.tape,hs.output,hs.size,λb hb hn=>hs.block b hb λh=>hn ((hW b).1 h),λb hb=>absurd hb z0,hs.rho⟩
 ·exact jj hr.mem.kp λ_ _ h=>hr.mem.glc h
 ·exact hle _ _ _ _ _ (znk (λk m h=>zA h) hr.mem (λb hb=>.inl (hb.resolve_right z0)) hg (λb hb hk=>(hr.mem.old b hb).2 (hk.resolve_right z0)) (λ_=>z0))
theorem zaX.g {k:Option Nat}{s:SV}(h:zaX k s r){S Pm:Nat->Prop}{v0:Value} (hsub:∀b,S' b->S b) (h0:ρ' 0=some v0)
  (hk:∀k',k=some k'->ρ k'=some v0) (hn:k=none->v0=.slice none 0 0) {v:Value} (hg:G S Pm ρ w s v):G S' Pm' ρ' w r v:=by
 induction h generalizing v with
 | own k' h=>
  obtain⟨g1,g2⟩:=hg.own_inv;rw[hk k' h]at g1;cases g1
  exact .own _ _ h0 g2
 | loc k' off h=>
  obtain⟨b,g1,rfl⟩:=hg.loc_inv;rw[hk k' h]at g1;cases g1
  exact .loc _ _ _ h0
 | nil h=>
  rw[hg.val_inv];exact .own _ _ (by rw[h0,hn h]) rfl
 | le s r h hf=>exact .d _ _ ((uH hf (h _ _ _ _ _ hg)).less hsub)
 | junk s=>exact .d _ _ (.junk _)
 | agg cs ds hl h ih=>
  obtain⟨vs,rfl,hvs⟩:=hg.agg_inv;refine .agg _ vs (hvs.1.trans hl) λj r u hr hu=>?_
  have hj:j < cs.length:=by have:=(Xc.1 hr).1;omega
  exact ih j _ r (Xb hj) hr (hvs.2 j _ u (Xb hj) hu)
 | tup cs ds hl h ih=>
  obtain⟨vs,rfl,hvs⟩:=hg.tup_inv;refine .tup _ vs (hvs.1.trans hl) λj r u hr hu=>?_
  have hj:j < cs.length:=by have:=(Xc.1 hr).1;omega
  exact ih j _ r (Xb hj) hr (hvs.2 j _ u (Xb hj) hu)
 | fn f cs ds hl h ih=>
  obtain⟨vs,rfl,hvs⟩:=hg.fn_inv;refine .fn _ _ vs (hvs.1.trans hl) λj r u hr hu=>?_
  have hj:j < cs.length:=by have:=(Xc.1 hr).1;omega
  exact ih j _ r (Xb hj) hr (hvs.2 j _ u (Xb hj) hu)
theorem zjx(hT:TOK P Γ) (hm:P.follows .mixedOrders=true){args:List SV}{Q:Ex->St->Prop}
  (hf:P.funcs[f]? =some fn) (hb:fn.body=some c) (hn:(fn.name== "runtime.NumGoroutine")=false) (hle:Nat.ble args.length fn.ntmps=true)
  (h:jP P Γ c ⟨yf 0 args,[],0,fn.ntmps,0⟩ Q) (hS:∀e σ,Q e σ->∃σ',Sub σ σ'/\zri Γ fn.results.toList r m e σ'):qI P f args [] r [(0,m)]:=by
 refine zaM hT hm hf hb hn hle h hS (λe σ hq he=>?_) (λid σ hq=>hq)
 have hq:zbQ σ Γ fn.results.toList λs=>∃k,zaX k s r/\zwg σ.M k m:=by
  cases e with
  | exit id=>exact absurd rfl (he id)
  | normal=>exact hq
  | ret=>exact hq
 obtain⟨s,⟨k,htk,hmk⟩,h1⟩:=yw hT hq;refine⟨s,h1,λ{E ρ a w v} hr hW hρ0 hg=>?_⟩;have hs:=hr.stp
 have main:∀v0:Value,(∀b,qz v0=some b->Own σ.M ρ b)->(∀k',k=some k'->ρ k'=some v0)->(k=none->v0=.slice none 0 0)->
   (∀S Pm:Nat->Prop,(∀b,S b->E.Keep b∨Own σ.M ρ b)->j8 S Pm (one v0) w 0 m)->
   ∃ρ',Stp (Own [] E.ρ0) (Own [(0,m)] ρ') E.ρ0 ρ' E.w0 w/\zO E.Keep [(0,m)] ρ' w/\G (λb=>E.Keep b∨Own [(0,m)] ρ' b) (Own [(0,m)] ρ') ρ' w r v:=by
  intro v0 hown hk hnone hrel;have hsub:∀b,Own [(0,m)] (one v0) b->Own σ.M ρ b:=λb hb=>hown b (zbx.1 hb)
  refine⟨one v0,⟨hs.os,hs.tape,hs.output,hs.size,λb hb hn=>hs.block b hb λh=>hn ((hW b).1 h),λb hb=>(hs.own b (hsub b hb)).imp (hW b).1 id,λk' v' hv'=>?_⟩,?_,?_⟩
  ·rw[hρ0 k' (Xe _)]at hv';cases hv'
  ·refine⟨λk' m1 h=>?_,X4.2 ⟨λ_ h=>(by cases h),List.Pairwise.nil⟩,λk1 m1 k2 m2 _ _ _ h1 h2 hne=>?_,λb hb=>hr.mem.old b (hsub b hb),hr.mem.kp,hr.mem.glO hsub⟩
   ·cases h with
    | head=>exact hrel _ _ λb hb=>hb.imp id (hsub b)
    | tail _ h=>cases h
   ·cases h1 with
    | head=>cases h2 with
     | head=>exact absurd rfl hne
     | tail _ h=>cases h
    | tail _ h=>cases h
  ·exact htk.g (λb hb=>hb.imp id (hsub b)) uO hk hnone hg
 cases k with
 | some k'=>
  obtain⟨hlk,hfm⟩:=hmk;have hmem:=zA hlk;obtain⟨v0,hv0⟩:=(hr.mem.rel k' m hmem).name
  exact main v0 (λb hb=>⟨k',m,v0,hmem,hv0,hb⟩) (λk2 e=>by cases e;exact hv0) (λe=>by cases e)
   λS Pm hS=>j8.move (by rw[uO,hv0]) hfm (λs u _ hd=>.inl (hd.less hS)) (hr.mem.rel k' m hmem)
 | none=>
  cases m with
  | box T cs=>exact hmk.elim
  | garr T sz xs=>exact hmk.elim
  | map es=>exact hmk.elim
  | arr T enc sz xs=>
   have hx:xs=[]:=hmk;subst hx
   exact main (.slice none 0 0) (λb hb=>by simp[qz]at hb) (λ_ e=>by cases e) (λ_=>rfl)
    λS Pm _=>⟨.slice none 0 0,[],uO,World.ownsRow_nil w 0 T sz,by simp,λu hu=>(by cases hu),λx hx=>(by cases hx),λi j x s hx=>(by simp at hx)⟩
theorem qY(hT:TOK P Γ) (hm:P.follows .mixedOrders=true){args:List SV}
  (hf:P.funcs[f]? =some fn) (hb:fn.body=some c) (hn:(fn.name== "runtime.NumGoroutine")=false) (hle:Nat.ble args.length fn.ntmps=true)
  (h:jP P Γ c ⟨yf 0 args,[],0,fn.ntmps,0⟩ (zri Γ fn.results.toList r m)):qI P f args [] r [(0,m)]:=
 zjx hT hm hf hb hn hle h λ_ σ h=>⟨σ,.refl,h⟩
theorem zeP(hT:TOK P Γ) (hm:P.follows .mixedOrders=true){args:List SV}
  (hf:P.funcs[f]? =some fn) (hb:fn.body=some c) (hn:(fn.name== "runtime.NumGoroutine")=false) (hle:Nat.ble args.length fn.ntmps=true)
  (h:jP P Γ c ⟨yf 0 args,[],0,fn.ntmps,0⟩ (λe σ=>∃σ',Sub σ σ'/\zri Γ fn.results.toList r m e σ')):qI P f args [] r [(0,m)]:=
 zjx hT hm hf hb hn hle h λ_ _ h=>h
theorem qI.plain{args:List SV}{r':SV}(h:qI P f args [] r [(0,m)])(e:zlB (zX [(0,m)]) r=r'):qI P f args [] r' []:=by
 subst e;refine⟨h.1,λKeep ρ w vs hk hm hρ hg=>(h.2 Keep ρ w vs hk hm hρ hg).mono λ_ _ ⟨v,ρ',e,hs,hm',hgr⟩=>?_⟩;refine⟨v,ρ,e,⟨hs.os,hs.tape,hs.output,hs.size,hs.block,λb hb=>.inl (z0 hb |>.elim),λ_ _ h=>h⟩,jj hm'.kp (λ_ _ h=>hm'.glc h),?_⟩;exact znk (λk m h=>zA h) hm' (λb hb=>hb.elim .inl λh=>(z0 h).elim) hgr (λb hb hSb=>hSb.elim (hm'.old b hb).2 λh=>z0 h) (λb=>z0)
theorem uw(hT:TOK P Γ) (hm:P.follows .mixedOrders=true){args:List SV}{m':Mem}
  (hf:P.funcs[f]? =some fn) (hb:fn.body=some c) (hn:(fn.name== "runtime.NumGoroutine")=false) (hle:Nat.ble args.length fn.ntmps=true) (hfm:zhU m') (hfr:ziY r=true)
  (h:jP P Γ c ⟨yf 0 args,[(0,m)],1,fn.ntmps,1⟩ (zBC Γ fn.results.toList r m')):qI P f args [(0,m)] r [(0,m')]:=by
 refine zaM hT hm hf hb hn hle h (λe σ h=>⟨σ,.refl,h⟩) (λe σ hq he=>?_) (λid σ hq=>hq)
 have hq:zbQ σ Γ fn.results.toList λs=>(zX σ.M 0=some m'/\LE s r):=by
  cases e with
  | exit id=>exact absurd rfl (he id)
  | normal=>exact hq
  | ret=>exact hq
 obtain⟨s,⟨hlk,hle⟩,h1⟩:=yw hT hq;refine⟨s,h1,λ{E ρ a w v} hr hW hρ0 hg=>?_⟩;have hs:=hr.stp;have hmem:=zA hlk;obtain⟨v0,hv0⟩:=(hr.mem.rel 0 m' hmem).name;have hsub:∀b,Own [(0,m')] (one v0) b->Own σ.M ρ b:=λb hb=>⟨0,m',v0,hmem,hv0,zbx.1 hb⟩
 refine⟨one v0,⟨hs.os,hs.tape,hs.output,hs.size,λb hb hn=>hs.block b hb λh=>hn ((hW b).1 h),λb hb=>(hs.own b (hsub b hb)).imp (hW b).1 id,λk' v' hv'=>?_⟩,?_,?_⟩
 ·by_cases hk:k'=0
  ·subst hk;have:=hs.rho 0 v' hv';rw[hv0]at this;cases this;exact uO
  ·rw[hρ0 k' (by simp;omega)]at hv';cases hv'
 ·refine⟨λk' m1 h=>?_,X4.2 ⟨λ_ h=>(by cases h),List.Pairwise.nil⟩,λk1 m1 k2 m2 _ _ _ h1 h2 hne=>?_,λb hb=>hr.mem.old b (hsub b hb),hr.mem.kp,hr.mem.glO hsub⟩
  ·cases h with
   | head=>exact j8.move (by rw[uO,hv0]) hfm (λs u _ hd=>.inl (hd.less λb hb=>hb.imp id (hsub b))) (hr.mem.rel 0 m' hmem)
   | tail _ h=>cases h
  ·cases h1 with
   | head=>cases h2 with
    | head=>exact absurd rfl hne
    | tail _ h=>cases h
   | tail _ h=>cases h
 ·exact ziD (λb hb=>hb.imp id (hsub b)) hfr (hle _ _ _ _ _ hg)
end
end Go.Gs
