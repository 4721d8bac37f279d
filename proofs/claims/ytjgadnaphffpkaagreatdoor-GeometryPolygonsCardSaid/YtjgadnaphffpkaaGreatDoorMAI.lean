/- One operation upon an abstract state; a region in the order of its text. -/
import Derived.Test.YtjgadnaphffpkaaGreatDoorMA
import Derived.Test.YtjgadnaphffpkaaGreatDoorMAH
set_option maxRecDepth 100000
set_option maxHeartbeats 8000000
set_option linter.all false
namespace Go.Gs
variable{L:List (Nat×SV)}
theorem zd5{x:Operand}{K:SV->Prop}(h:ev L x K):
  ∃s,K s/\∀{S Pm:Nat->Prop} {ρ:zj} {a:Act} {w:World},(∀t s,x=.tmp t->qc L t=some s->G S Pm ρ w s (a.tmps.getD t undef))->G S Pm ρ w s (a.eval x):=by
 unfold ev at h
 split at h
 ·split at h
  ·rename_i t _ s hs;exact⟨s,qG h,λhr=>hr _ _ rfl hs⟩
  ·exact h.elim
 ·exact⟨_,qG h,λ_=>.d _ _ (.val _)⟩
 ·exact⟨_,h,λ_=>.fn _ [] [] rfl λj s v h=>by simp at h⟩
 ·exact h.elim
theorem zfL{L:List (Nat×SV)}:∀{xs:List Operand} {K:List SV->Prop},evs L xs K->
  ∃svs,K svs/\∀{S Pm:Nat->Prop} {ρ:zj} {a:Act} {w:World},(∀t s,t∈zgO xs->qc L t=some s->G S Pm ρ w s (a.tmps.getD t undef))->Gs S Pm ρ w svs (xs.map a.eval)
 | [],K,h=>⟨[],h,λ_=>.nil⟩
 | x::xs,K,h=>by
  obtain⟨s,h,h1⟩:=zd5 h;obtain⟨svs,h,h2⟩:=zfL h;refine⟨s::svs,h,λhr=>.cons (h1 λt s e hl=>hr t s ?_ hl) (h2 λt s ht hl=>hr t s ?_ hl)⟩
  ·subst e;exact .head _
  ·cases x <;> first | exact .tail _ ht | exact ht
variable{M:List (Nat×Mem)}{κ:Nat}
theorem zaS{k:Nat}{m:Mem}(h:zc4 M κ k=some m):k < κ/\zY M k=some m:=by
 unfold zc4 at h
 split at h
 ·rename_i hb;exact⟨Xw hb,h⟩
 ·cases h
variable{K:Prop}
theorem qH{d:Option Tmp}{nt:Nat}(h:zla d nt K):(∀t,d=some t->t < nt)/\K:=by
 unfold zla at h
 split at h
 ·obtain⟨h1,h2⟩:=zh h;exact⟨λt e=>by cases e;exact Xw h1,h2⟩
 ·exact⟨λt e=>(by cases e),h⟩
def zAz:MD->Bool
 | .give _ _ _=>true
 | _=>false
def MdOK(all:List Oper)(i κ:Nat)(op:Op)(md:MD):Prop:=
 (isW op=true/\((∀k,md≠.drop k)/\zAz md=false)/\∀k m,(md=.set k m∨md=.repl k m)->k < κ)∨md=.none∨((∃m,md=.push m)/\(zc5 op=true∨zmC all i=true))
variable{draw:Bool}{all:List Oper}{i:Nat}{md:MD}
theorem zos{op:Op}(h:mdV draw all i κ op md K):K/\(draw=true->MdOK all i κ op md):=by
 unfold mdV at h
 split at h
 ·exact⟨h,λe=>by cases e⟩
 ·split at h
  ·rename_i hw
   split at h
   ·exact h.elim
   ·obtain⟨h1,h2⟩:=zh h;exact⟨h2,λ_=>.inl ⟨hw,⟨λk e=>(by cases e),rfl⟩,λk m e=>by rcases e with e | e <;> cases e;exact Xw h1⟩⟩
   ·obtain⟨h1,h2⟩:=zh h;exact⟨h2,λ_=>.inl ⟨hw,⟨λk e=>(by cases e),rfl⟩,λk m e=>by rcases e with e | e <;> cases e;exact Xw h1⟩⟩
   ·exact h.elim
   ·rename_i hn hn1 hn2 hn3;exact⟨h,λ_=>.inl ⟨hw,⟨λk e=>hn k e,by cases md <;> first | rfl | exact absurd rfl (hn3 _ _ _)⟩,λk m e=>e.elim (λe=>absurd e (hn1 k m)) (λe=>absurd e (hn2 k m))⟩⟩
  ·split at h
   ·exact⟨h,λ_=>.inr (.inl rfl)⟩
   ·split at h
    ·exact⟨h,λ_=>.inr (.inr ⟨⟨_,rfl⟩,.inl ‹_›⟩)⟩
    ·rcases h with⟨ho,hg⟩ | h
     ·exact⟨hg,λ_=>.inr (.inr ⟨⟨_,rfl⟩,.inr ho⟩)⟩
     ·exact h.elim
   ·exact h.elim
theorem zyn{P:Program}{Γ:List (TypeId×TI)}{op:Op}{svs:List SV}{lm lm':Nat->Option Mem}{κ:Nat}{K:SV->MD->Prop}(hu:zcT op=false)(h:opV P Γ op svs lm κ K):opV P Γ op svs lm' κ K:=by
 cases op <;> first | (simp[zcT]at hu;done) | (rcases svs with _ | ⟨_,_ | ⟨_,_ | ⟨_,_ | _⟩⟩⟩ <;> exact h)
variable{P:Program}{a:Act}{w:World}
theorem qE.ex{o:Oper}{R:Value->World->Prop}(h:qE P o a w R):∃v w',R v w':=by
 unfold qE Oper.wp at h;generalize (execOp a.eval o).run P w=r at*
 cases r with
 | ok n w'=>
  cases n <;> simp only[Oper.upon]at h
  case value v=>obtain⟨u,e,hr⟩:=h;exact⟨u,w',hr⟩
  case skip=>obtain⟨u,e,hr⟩:=h;exact⟨u,w',hr⟩
  case defer d=>obtain⟨u,e,hr⟩:=h;exact⟨u,w',hr⟩
  case enter f args=>
   obtain⟨e,w'',fr,hR,_⟩:=h []
   cases e with
   | returned v=>obtain⟨u,e,hr⟩:=hR;exact⟨u,w'',hr⟩
   | panicked c=>exact hR.elim
   | outgrown=>obtain⟨_,_,hf⟩:=hR;exact hf.elim
  case row row args=>
   obtain⟨v,w'',hR,_⟩:=h default [];obtain⟨u,e,hr⟩:=hR;exact⟨u,w'',hr⟩
 | halt x w'=>cases x <;> simp only[Oper.upon]at h
theorem kJ{d t:Nat}{s:SV}:qc ((d,s)::L) t=if d=t then some s else qc L t:=by
 simp only[qc]
 by_cases h:d=t
 ·subst h;simp[KS]
 ·have:Nat.beq d t=false:=by
   cases hb:Nat.beq d t with
   | false=>rfl
   | true=>exact absurd (Xf hb) h
  simp[this,h]
theorem zfM{d t:Nat}{v:Value}(h:d < a.tmps.size):(a.put (some d) v).tmps.getD t undef=if d=t then v else a.tmps.getD t undef:=by
 simp only[Act.put]
 by_cases hd:d=t
 ·subst hd;simp[h]
 ·simp[hd]
theorem Rel.app {E:Env} {σ:St} {ρ:zj} {a:Act} {w w':World} {d:Option Tmp} {s:SV} {md:MD} {v:Value} (h:Rel E σ ρ a w) (hd:∀t,d=some t->t < σ.nt)
  (ha:k7 E.Keep σ.M ρ w σ.nk s md v w'):∃ρ',Rel E (σ.app d s md) ρ' (a.put d v) w':=by
 obtain⟨ρ',hs,hm,hg,hρ⟩:=ha;refine⟨ρ',?_⟩
 have hregs:∀t s,qc σ.L t=some s->t < σ.nt/\G (λb=>E.Keep b∨Own (zca σ.M σ.nk md) ρ' b) (Own (zca σ.M σ.nk md) ρ') ρ' w' s (a.tmps.getD t undef):=λt s hl=>
  ⟨(h.regs t s hl).1,((h.regs t s hl).2).stp hs⟩
 have hfresh:∀k,zaL σ.nk md<=k->ρ' k=none:=λk hk=>by
  have h1:σ.nk<=zaL σ.nk md:=by cases md <;> simp[zaL]
  rw[hρ k (.inr hk)];exact h.fresh k oM
 cases d with
 | none=>exact⟨h.size,h.defers,hregs,hm,hfresh,h.stp.trans hs,h.keep,h.low⟩
 | some d=>
  have hlt:=hd d rfl;refine⟨by have:=h.size;simpa[Act.put,St.app] using this,h.defers,λt s' hl0=>?_,hm,hfresh,h.stp.trans hs,h.keep,h.low⟩;have hl:(if d=t then some s else qc σ.L t)=some s':=by rw[← kJ];exact hl0
  clear hl0;rw[zfM (by rw[h.size];exact hlt)]
  by_cases e:d=t
  ·subst e;rw[if_pos rfl]at hl;cases hl
   rw[if_pos rfl];exact⟨hlt,hg⟩
  ·rw[if_neg e]at hl ⊢;exact hregs t s' hl
variable{E:Env}{σ:St}{ρ:zj}
theorem Rel.noKey(h:Rel E σ ρ a w):∀m,(σ.nk,m)∉σ.M:=λm hm=>by
 obtain⟨v,hv⟩:=(h.mem.rel _ m hm).name;rw[h.fresh _ (Xh _)]at hv;cases hv
theorem uV{Keep:Nat->Prop}(hm:zN Keep M ρ w):k7 Keep M ρ w κ (.val undef) .none undef w:=k7.same hm (.d _ _ (.val _))
structure zlk (P:Program) (draw:Bool) (all:List Oper) (i:Nat) (o:Oper) (σ:St) (svs:List SV) (s:SV) (md:MD):Prop where
 ok:yG P o.op svs (if zcT o.op then zc4 σ.M σ.nk else λ_=>none) σ.nk s md
 ev:∀{S Pm:Nat->Prop} {ρ:zj} {a:Act} {w:World},(∀t s,t∈zgO (qe o.op)->qc σ.L t=some s->G S Pm ρ w s (a.tmps.getD t undef))->Gs S Pm ρ w svs ((qe o.op).map a.eval)
 dst:∀t,o.dst=some t->t < σ.nt
 md:draw=true->MdOK all i σ.nk o.op md
variable{Γ:List (TypeId×TI)}
theorem ztw(hT:TOK P Γ){o:Oper}{K:St->Prop}
  (hr:Rel E σ ρ a w) (h:zda P Γ draw all i o σ K):∃svs s md,K (σ.app o.dst s md)/\zlk P draw all i o σ svs s md:=by
 unfold zda at h;replace h:=ze0 h;obtain⟨svs,h,hev⟩:=zfL h;have hg:=hev (a:=a) (λt s _ hl=>(hr.regs t s hl).2);have hlm:∀k m,zc4 σ.M σ.nk k=some m->zY σ.M k=some m:=λk m h=>(zaS h).2
 cases hu:zcT o.op with
 | true=>
  obtain⟨s,md,hK,hok⟩:=zgY hT ⟨E.Keep,σ.M,ρ,w,_,hlm,hr.mem,hg⟩ h;obtain⟨hK,hmd⟩:=zos (zc9 (zc8 hK));obtain⟨hd,hK⟩:=qH hK;exact⟨svs,s,md,hK,by simpa[hu] using hok,hev,hd,hmd⟩
 | false=>
  obtain⟨s,md,hK,hok⟩:=zgY hT ⟨E.Keep,σ.M,ρ,w,_,λk m h=>(by cases h),hr.mem,hg⟩ (zyn (lm':=λ_=>none) hu h);obtain⟨hK,hmd⟩:=zos (zc9 (zc8 hK));obtain⟨hd,hK⟩:=qH hK;exact⟨svs,s,md,hK,by simpa[hu] using hok,hev,hd,hmd⟩
theorem zlk.does{o:Oper}{svs:List SV} {s:SV}(h:zlk P draw all i o σ svs s md)
  (hr:Rel E σ ρ a w):qE P o a w (k7 E.Keep σ.M ρ w σ.nk s md):=by
 refine h.ok o rfl E.Keep σ.M ρ a w (λk m hk=>?_) hr.mem (λk hk _=>hr.fresh k hk) (λ_=>hr.noKey) (h.ev λt s _ hl=>(hr.regs t s hl).2)
 split at hk
 ·exact(zaS hk).2
 ·cases hk
theorem Rel.refine(h:Rel E σ ρ a w) {t:Nat} {s s':SV} (hl:qc σ.L t=some s)
  (hg:∀S Pm ρ w v,G S Pm ρ w s v->G S Pm ρ w s' v):Rel E (σ.put (some t) s') ρ a w:=
 ⟨h.size,h.defers,λt' s2 hl0=>by
  have hl2:(if t=t' then some s' else qc σ.L t')=some s2:=by rw[← kJ];exact hl0
  clear hl0
  by_cases e:t=t'
  ·subst e;rw[if_pos rfl]at hl2;cases hl2
   exact⟨(h.regs t s hl).1,hg _ _ _ _ _ (h.regs t s hl).2⟩
  ·rw[if_neg e]at hl2
   exact h.regs t' s2 hl2,h.mem,h.fresh,h.stp,h.keep,h.low⟩
variable{p:Prop}
theorem zcm{i:Decidable p}(hp:p):∀S Pm ρ w v,G S Pm ρ w (.pr p i) v->G S Pm ρ w (.val (.bool true)) v:=λ_ _ _ _ v h=>by
 rw[h.pr_inv];simp only[hp,decide_true];exact .d _ _ (.val _)
theorem zaT{i:Decidable p}(hp:¬p):∀S Pm ρ w v,G S Pm ρ w (.pr p i) v->G S Pm ρ w (.val (.bool false)) v:=λ_ _ _ _ v h=>by
 rw[h.pr_inv];simp only[hp,decide_false];exact .d _ _ (.val _)
def zrY(v:Value)(want:Bool):Bool:=
 match v with
 | .bool b=>b==want
 | _=>false
def qZ(all:List Oper)(σ:St)(o:Oper)(run:Bool):Prop:=
 match o.guard with
 | none=>run=true
 | some (j,want)=>∃t v,zc6 all j=some t/\qc σ.L t=some (.val v)/\run=zrY v want
theorem zvo(all:List Oper)(j:Nat):zc6 all j=(all[j]?).bind (·.dst):=by
 induction all generalizing j with
 | nil=>simp[zc6]
 | cons o r ih=>cases j with
  | zero=>simp[zc6]
  | succ j=>simp[zc6,ih]
theorem zll{o:Oper} {run:Bool} (h:qZ all σ o run)(hsz:a.tmps.size=σ.nt)
  (hg:∀t v,(∃j want,o.guard=some (j,want)/\zc6 all j=some t)->qc σ.L t=some (.val v)->t < σ.nt/\a.tmps.getD t undef=v):Region.wanted o (yielded all.toArray a.tmps)=run:=by
 unfold qZ at h;unfold Region.wanted
 split at h
 ·rename_i hn;simp[hn,h]
 ·rename_i j want hgd;obtain⟨t,v,h1,h2,h3⟩:=h;obtain⟨h4,h5⟩:=hg t v ⟨j,want,hgd,h1⟩ h2
  have h6:a.tmps[t]? =some v:=by
   have hlt:t < a.tmps.size:=hsz ▸ h4;simp[hlt]at h5 ⊢;exact h5
  rw[zvo]at h1;simp only[hgd,yielded];have h1':((all.toArray)[j]?).bind (·.dst)=some t:=by simpa using h1
  rw[h1'];simp only[Option.bind_some,h6,h3]
  cases v <;> first | rfl | (rename_i b;cases b <;> cases want <;> rfl)
theorem zfN(hT:TOK P Γ){o:Oper} {r:List Oper}{K:St->Prop}
  (hr:Rel E σ ρ a w) (h:u7 P Γ draw all (o::r) i σ K):∃σ' run svs s md,u7 P Γ draw all r (i+1) (σ'.app o.dst s md) K/\qZ all σ' o run/\
   (σ'=σ∨∃t s0 s1,qc σ.L t=some s0/\(∀S Pm ρ w v,G S Pm ρ w s0 v->G S Pm ρ w s1 v)/\σ'=σ.put (some t) s1)/\(∀t,o.dst=some t->t < σ.nt)/\
   ((run=true/\zlk P draw all i o σ' svs s md)∨(run=false/\s=.val undef/\md=.none)):=by
 have run1:∀{σ':St},Rel E σ' ρ a w->zda P Γ draw all i o σ' (λσ=>u7 P Γ draw all r (i+1) σ K)->σ'.nt=σ.nt->∃svs s md,u7 P Γ draw all r (i+1) (σ'.app o.dst s md) K/\(∀t,o.dst=some t->t < σ.nt)/\zlk P draw all i o σ' svs s md:=by
  intro σ' hr' h' hn;obtain⟨svs,s,md,h1,h2⟩:=ztw hT hr' h';exact⟨svs,s,md,h1,λt e=>hn ▸ h2.dst t e,h2⟩
 simp only[u7]at h
 split at h
 ·rename_i hg;obtain⟨svs,s,md,h1,h2,h3⟩:=run1 hr h rfl;exact⟨σ,true,svs,s,md,h1,by simp[qZ,hg],.inl rfl,h2,.inl ⟨rfl,h3⟩⟩
 ·rename_i j want hg
  split at h
  ·exact h.elim
  ·rename_i t ht
   have gv:∀{σ':St} {v:Value},qc σ'.L t=some (.val v)->qZ all σ' o (zrY v want):=λhl=>by
    unfold qZ;rw[hg];exact⟨t,_,ht,hl,rfl⟩
   have gi:∀{σ':St} {b:Bool},qc σ'.L t=some (.val (.bool b))->qZ all σ' o (b==want):=λhl=>gv hl
   have put_look:∀(s1:SV),qc (σ.put (some t) s1).L t=some s1:=λs1=>by
    show qc ((t,s1)::σ.L) t=some s1;rw[kJ];simp
   split at h
   ·rename_i hl
    split at h
    ·obtain⟨svs,s,md,h1,h2,h3⟩:=run1 hr h rfl;exact⟨σ,_,svs,s,md,h1,gi hl,.inl rfl,h2,.inl ⟨rfl,h3⟩⟩
    ·obtain⟨hd,h⟩:=qH h;exact⟨σ,_,[],_,_,h,gi hl,.inl rfl,hd,.inr ⟨rfl,rfl,rfl⟩⟩
   ·rename_i hl
    split at h
    ·obtain⟨svs,s,md,h1,h2,h3⟩:=run1 hr h rfl;exact⟨σ,_,svs,s,md,h1,gi hl,.inl rfl,h2,.inl ⟨rfl,h3⟩⟩
    ·obtain⟨hd,h⟩:=qH h;exact⟨σ,_,[],_,_,h,gi hl,.inl rfl,hd,.inr ⟨rfl,rfl,rfl⟩⟩
   ·rename_i p ip hl
    by_cases hp:p
    ·have hr':=hr.refine hl (zcm hp)
     split at h
     ·obtain⟨svs,s,md,h1,h2,h3⟩:=run1 hr' (h.yes hp) rfl;exact⟨_,_,svs,s,md,h1,gi (put_look _),.inr ⟨t,_,_,hl,zcm hp,rfl⟩,h2,.inl ⟨rfl,h3⟩⟩
     ·obtain⟨hd,h⟩:=qH (h.yes hp);exact⟨_,_,[],_,_,h,gi (put_look _),.inr ⟨t,_,_,hl,zcm hp,rfl⟩,hd,.inr ⟨rfl,rfl,rfl⟩⟩
    ·have hr':=hr.refine hl (zaT hp)
     split at h
     ·obtain⟨hd,h⟩:=qH (h.no hp);exact⟨_,_,[],_,_,h,gi (put_look _),.inr ⟨t,_,_,hl,zaT hp,rfl⟩,hd,.inr ⟨rfl,rfl,rfl⟩⟩
     ·obtain⟨svs,s,md,h1,h2,h3⟩:=run1 hr' (h.no hp) rfl;exact⟨_,_,svs,s,md,h1,gi (put_look _),.inr ⟨t,_,_,hl,zaT hp,rfl⟩,h2,.inl ⟨rfl,h3⟩⟩
   ·rename_i hl;obtain⟨hd,h⟩:=qH h;exact⟨σ,_,[],_,_,h,gv hl,.inl rfl,hd,.inr ⟨rfl,rfl,rfl⟩⟩
   ·exact h.elim
theorem Rel.wanted{E:Env}{σ:St}{ρ:zj}{a:Act}{w:World}(h:Rel E σ ρ a w){all:List Oper}{o:Oper}{run:Bool}(hg:qZ all σ o run):Region.wanted o (yielded all.toArray a.tmps)=run:=
 zll hg h.size λt _ _ hl=>⟨(h.regs t _ hl).1,(h.regs t _ hl).2.val_inv⟩
theorem zin {P:Program} {Γ:List (TypeId×TI)} (hT:TOK P Γ) {all:List Oper} {draw:Bool} {E:Env} {Q:Exit->Act->World->Prop} {K:St->Prop}
  (hQ:∀σ ρ a w,K σ->Rel E σ ρ a w->Q .normal a w):∀{l:List Oper} {i:Nat} {σ:St} {ρ:zj} {a:Act} {w:World},Rel E σ ρ a w->u7 P Γ draw all l i σ K->wpList P all.toArray Q l a w
 | [],i,σ,ρ,a,w,hr,h=>hQ σ ρ a w h hr
 | o::r,i,σ,ρ,a,w,hr,h=>by
  obtain⟨σ',run,svs,s,md,h1,hg,href,hd,hrun⟩:=zfN hT hr h
  have hr':Rel E σ' ρ a w:=by
   rcases href with rfl | ⟨t,s0,s1,h2,h3,rfl⟩
   ·exact hr
   ·exact hr.refine h2 h3
  have hnt:σ'.nt=σ.nt:=by rcases href with rfl | ⟨t,s0,s1,h2,h3,rfl⟩ <;> rfl
  unfold wpList;rw[hr'.wanted hg]
  rcases hrun with⟨rfl,hst⟩ | ⟨rfl,rfl,rfl⟩
  ·simp only[if_true];refine .inl ((hst.does hr').wp λv w' ha=>?_);obtain⟨ρ',hrel⟩:=hr'.app (λt e=>hnt ▸ hd t e) ha;exact zin hT hQ hrel h1
  ·simp only[Kz,if_false];obtain⟨ρ',hrel⟩:=hr'.app (λt e=>hnt ▸ hd t e) (uV hr'.mem);exact zin hT hQ hrel h1
end Go.Gs
