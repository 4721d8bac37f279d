/- One operation upon an abstract state; a region in the order of its text. -/
import Derived.Test.YtjfbljononkmcaaMA
import Derived.Test.YtjfbljononkmcaaMAL
set_option maxRecDepth 100000
set_option maxHeartbeats 8000000
set_option linter.all false
namespace Go.Gs
theorem zdW{L:List (Nat×SV)}{x:Operand}{K:SV->Prop}(h:ev L x K):
  ∃s,K s/\∀{S Pm:Nat->Prop} {ρ:zh} {a:Act} {w:World},(∀t s,x=.tmp t->ka L t=some s->G S Pm ρ w s (a.tmps.getD t undef))->G S Pm ρ w s (a.eval x):=by
 unfold ev at h
 split at h
 ·split at h
  ·rename_i t _ s hs;exact ⟨s,zS h,fun hr=>hr _ _ rfl hs⟩
  ·exact h.elim
 ·exact ⟨_,zS h,fun _=>.d _ _ (.val _)⟩
 ·exact ⟨_,h,fun _=>.fn _ [] [] rfl fun j s v h=>by simp at h⟩
 ·exact h.elim
theorem zac{L:List (Nat×SV)}:∀{xs:List Operand} {K:List SV->Prop},evs L xs K->
  ∃svs,K svs/\∀{S Pm:Nat->Prop} {ρ:zh} {a:Act} {w:World},(∀t s,t∈uN xs->ka L t=some s->G S Pm ρ w s (a.tmps.getD t undef))->Gs S Pm ρ w svs (xs.map a.eval)
 | [],K,h=>⟨[],h,fun _=>.nil⟩
 | x::xs,K,h=>by
  obtain ⟨s,h,h1⟩:=zdW h;obtain ⟨svs,h,h2⟩:=zac h;refine ⟨s::svs,h,fun hr=>.cons (h1 fun t s e hl=>hr t s ?_ hl) (h2 fun t s ht hl=>hr t s ?_ hl)⟩
  ·subst e;exact .head _
  ·cases x <;> first | exact .tail _ ht | exact ht
theorem qZ{M:List (Nat×Mem)}{κ k:Nat}{m:Mem}(h:un M κ k=some m):k < κ/\zm M k=some m:=by
 unfold un at h
 split at h
 ·rename_i hb;exact ⟨Nat.le_of_ble_eq_true hb,h⟩
 ·cases h
theorem zY{d:Option Tmp}{nt:Nat}{K:Prop}(h:zb3 d nt K):(∀t,d=some t->t < nt)/\K:=by
 unfold zb3 at h
 split at h
 ·obtain ⟨h1,h2⟩:=zd h;exact ⟨fun t e=>by cases e;exact Nat.le_of_ble_eq_true h1,h2⟩
 ·exact ⟨fun t e=>(by cases e),h⟩
def zg8:MD->Bool
 | .give _ _ _=>true
 | _=>false
def MdOK(all:List Oper)(i κ:Nat)(op:Op)(md:MD):Prop:=
 (isW op=true/\((∀k,md≠.drop k)/\zg8 md=false)/\∀k m,(md=.set k m∨md=.repl k m)->k < κ)∨md=.none∨((∃m,md=.push m)/\(yi op=true∨zbv all i=true))
theorem zcv{draw:Bool}{all:List Oper}{i κ:Nat}{op:Op}{md:MD}{K:Prop}(h:mdV draw all i κ op md K):K/\(draw=true->MdOK all i κ op md):=by
 unfold mdV at h
 split at h
 ·exact ⟨h,fun e=>by cases e⟩
 ·split at h
  ·rename_i hw
   split at h
   ·exact h.elim
   ·obtain ⟨h1,h2⟩:=zd h;exact ⟨h2,fun _=>.inl ⟨hw,⟨fun k e=>(by cases e),rfl⟩,fun k m e=>by rcases e with e | e <;> cases e;exact Nat.le_of_ble_eq_true h1⟩⟩
   ·obtain ⟨h1,h2⟩:=zd h;exact ⟨h2,fun _=>.inl ⟨hw,⟨fun k e=>(by cases e),rfl⟩,fun k m e=>by rcases e with e | e <;> cases e;exact Nat.le_of_ble_eq_true h1⟩⟩
   ·exact h.elim
   ·rename_i hn hn1 hn2 hn3;exact ⟨h,fun _=>.inl ⟨hw,⟨fun k e=>hn k e,by cases md <;> first | rfl | exact absurd rfl (hn3 _ _ _)⟩,fun k m e=>e.elim (fun e=>absurd e (hn1 k m)) (fun e=>absurd e (hn2 k m))⟩⟩
  ·split at h
   ·exact ⟨h,fun _=>.inr (.inl rfl)⟩
   ·split at h
    ·exact ⟨h,fun _=>.inr (.inr ⟨⟨_,rfl⟩,.inl ‹_›⟩)⟩
    ·rcases h with ⟨ho,hg⟩ | h
     ·exact ⟨hg,fun _=>.inr (.inr ⟨⟨_,rfl⟩,.inr ho⟩)⟩
     ·exact h.elim
   ·exact h.elim
theorem zgq{P:Program}{Γ:List (TypeId×TI)}{op:Op}{svs:List SV}{lm lm':Nat->Option Mem}{κ:Nat}{K:SV->MD->Prop}(hu:yc op=false)(h:opV P Γ op svs lm κ K):opV P Γ op svs lm' κ K:=by
 cases op <;> first | (simp [yc] at hu;done) | (rcases svs with _ | ⟨_,_ | ⟨_,_ | ⟨_,_ | _⟩⟩⟩ <;> exact h)
theorem zR.ex{P:Program}{o:Oper}{a:Act}{w:World}{R:Value->World->Prop}(h:zR P o a w R):∃v w',R v w':=by
 unfold zR Oper.wp at h;generalize (execOp a.eval o).run P w=r at*
 cases r with
 | ok n w'=>
  cases n <;> simp only [Oper.upon] at h
  case value v=>obtain ⟨u,e,hr⟩:=h;exact ⟨u,w',hr⟩
  case skip=>obtain ⟨u,e,hr⟩:=h;exact ⟨u,w',hr⟩
  case defer d=>obtain ⟨u,e,hr⟩:=h;exact ⟨u,w',hr⟩
  case enter f args=>
   obtain ⟨e,w'',fr,hR,_⟩:=h []
   cases e with
   | returned v=>obtain ⟨u,e,hr⟩:=hR;exact ⟨u,w'',hr⟩
   | panicked c=>exact hR.elim
   | outgrown=>obtain ⟨_,_,hf⟩:=hR;exact hf.elim
  case row row args=>
   obtain ⟨v,w'',hR,_⟩:=h default [];obtain ⟨u,e,hr⟩:=hR;exact ⟨u,w'',hr⟩
 | halt x w'=>cases x <;> simp only [Oper.upon] at h
theorem kH{L:List (Nat×SV)}{d t:Nat}{s:SV}:ka ((d,s)::L) t=if d=t then some s else ka L t:=by
 simp only [ka]
 by_cases h:d=t
 ·subst h;simp [Nat.beq_refl]
 ·have:Nat.beq d t=false:=by
   cases hb:Nat.beq d t with
   | false=>rfl
   | true=>exact absurd (Nat.eq_of_beq_eq_true hb) h
  simp [this,h]
theorem zbH{a:Act}{d t:Nat}{v:Value}(h:d < a.tmps.size):(a.put (some d) v).tmps.getD t undef=if d=t then v else a.tmps.getD t undef:=by
 simp only [Act.put]
 by_cases hd:d=t
 ·subst hd;simp [h]
 ·simp [hd]
theorem Rel.app {E:Env} {σ:St} {ρ:zh} {a:Act} {w w':World} {d:Option Tmp} {s:SV} {md:MD} {v:Value} (h:Rel E σ ρ a w) (hd:∀t,d=some t->t < σ.nt)
  (ha:zF E.Keep σ.M ρ w σ.nk s md v w'):∃ρ',Rel E (σ.app d s md) ρ' (a.put d v) w':=by
 obtain ⟨ρ',hs,hm,hg,hρ⟩:=ha;refine ⟨ρ',?_⟩
 have hregs:∀t s,ka σ.L t=some s->t < σ.nt/\G (fun b=>E.Keep b∨Own (jP σ.M σ.nk md) ρ' b) (Own (jP σ.M σ.nk md) ρ') ρ' w' s (a.tmps.getD t undef):=fun t s hl=>
  ⟨(h.regs t s hl).1,((h.regs t s hl).2).stp hs⟩
 have hfresh:∀k,qS σ.nk md<=k->ρ' k=none:=fun k hk=>by
  have h1:σ.nk<=qS σ.nk md:=by cases md <;> simp [qS]
  rw [hρ k (.inr hk)];exact h.fresh k oM
 cases d with
 | none=>exact ⟨h.size,h.defers,hregs,hm,hfresh,h.stp.trans hs,h.keep,h.low⟩
 | some d=>
  have hlt:=hd d rfl;refine ⟨by have:=h.size;simpa [Act.put,St.app] using this,h.defers,fun t s' hl0=>?_,hm,hfresh,h.stp.trans hs,h.keep,h.low⟩;have hl:(if d=t then some s else ka σ.L t)=some s':=by rw [← kH];exact hl0
  clear hl0;rw [zbH (by rw [h.size];exact hlt)]
  by_cases e:d=t
  ·subst e;rw [if_pos rfl] at hl;cases hl
   rw [if_pos rfl];exact ⟨hlt,hg⟩
  ·rw [if_neg e] at hl ⊢;exact hregs t s' hl
theorem Rel.noKey{E:Env}{σ:St}{ρ:zh}{a:Act}{w:World}(h:Rel E σ ρ a w):∀m,(σ.nk,m)∉σ.M:=fun m hm=>by
 obtain ⟨v,hv⟩:=(h.mem.rel _ m hm).name;rw [h.fresh _ (Nat.le_refl _)] at hv;cases hv
theorem j2{Keep:Nat->Prop}{M:List (Nat×Mem)}{ρ:zh}{w:World}{κ:Nat}(hm:zn Keep M ρ w):zF Keep M ρ w κ (.val undef) .none undef w:=zF.same hm (.d _ _ (.val _))
structure za5 (P:Program) (draw:Bool) (all:List Oper) (i:Nat) (o:Oper) (σ:St) (svs:List SV) (s:SV) (md:MD):Prop where
 ok:kC P o.op svs (if yc o.op then un σ.M σ.nk else fun _=>none) σ.nk s md
 ev:∀{S Pm:Nat->Prop} {ρ:zh} {a:Act} {w:World},(∀t s,t∈uN (zG o.op)->ka σ.L t=some s->G S Pm ρ w s (a.tmps.getD t undef))->Gs S Pm ρ w svs ((zG o.op).map a.eval)
 dst:∀t,o.dst=some t->t < σ.nt
 md:draw=true->MdOK all i σ.nk o.op md
theorem zeD {P:Program} {Γ:List (TypeId×TI)} (hT:TOK P Γ) {draw:Bool} {all:List Oper} {i:Nat} {o:Oper} {σ:St} {K:St->Prop} {E:Env} {ρ:zh} {a:Act} {w:World}
  (hr:Rel E σ ρ a w) (h:ym P Γ draw all i o σ K):∃svs s md,K (σ.app o.dst s md)/\za5 P draw all i o σ svs s md:=by
 unfold ym at h;replace h:=y6 h;obtain ⟨svs,h,hev⟩:=zac h;have hg:=hev (a:=a) (fun t s _ hl=>(hr.regs t s hl).2);have hlm:∀k m,un σ.M σ.nk k=some m->zm σ.M k=some m:=fun k m h=>(qZ h).2
 cases hu:yc o.op with
 | true=>
  obtain ⟨s,md,hK,hok⟩:=uY hT ⟨E.Keep,σ.M,ρ,w,_,hlm,hr.mem,hg⟩ h;obtain ⟨hK,hmd⟩:=zcv (yl (yk hK));obtain ⟨hd,hK⟩:=zY hK;exact ⟨svs,s,md,hK,by simpa [hu] using hok,hev,hd,hmd⟩
 | false=>
  obtain ⟨s,md,hK,hok⟩:=uY hT ⟨E.Keep,σ.M,ρ,w,_,fun k m h=>(by cases h),hr.mem,hg⟩ (zgq (lm':=fun _=>none) hu h);obtain ⟨hK,hmd⟩:=zcv (yl (yk hK));obtain ⟨hd,hK⟩:=zY hK;exact ⟨svs,s,md,hK,by simpa [hu] using hok,hev,hd,hmd⟩
theorem za5.does {P:Program} {draw:Bool} {all:List Oper} {i:Nat} {o:Oper} {σ:St} {svs:List SV} {s:SV} {md:MD} (h:za5 P draw all i o σ svs s md) {E:Env} {ρ:zh} {a:Act} {w:World}
  (hr:Rel E σ ρ a w):zR P o a w (zF E.Keep σ.M ρ w σ.nk s md):=by
 refine h.ok o rfl E.Keep σ.M ρ a w (fun k m hk=>?_) hr.mem (fun k hk _=>hr.fresh k hk) (fun _=>hr.noKey) (h.ev fun t s _ hl=>(hr.regs t s hl).2)
 split at hk
 ·exact (qZ hk).2
 ·cases hk
theorem Rel.refine {E:Env} {σ:St} {ρ:zh} {a:Act} {w:World} (h:Rel E σ ρ a w) {t:Nat} {s s':SV} (hl:ka σ.L t=some s)
  (hg:∀S Pm ρ w v,G S Pm ρ w s v->G S Pm ρ w s' v):Rel E (σ.put (some t) s') ρ a w:=
 ⟨h.size,h.defers,fun t' s2 hl0=>by
  have hl2:(if t=t' then some s' else ka σ.L t')=some s2:=by rw [← kH];exact hl0
  clear hl0
  by_cases e:t=t'
  ·subst e;rw [if_pos rfl] at hl2;cases hl2
   exact ⟨(h.regs t s hl).1,hg _ _ _ _ _ (h.regs t s hl).2⟩
  ·rw [if_neg e] at hl2
   exact h.regs t' s2 hl2,h.mem,h.fresh,h.stp,h.keep,h.low⟩
theorem yO{p:Prop}{i:Decidable p}(hp:p):∀S Pm ρ w v,G S Pm ρ w (.pr p i) v->G S Pm ρ w (.val (.bool true)) v:=fun _ _ _ _ v h=>by
 rw [h.pr_inv];simp only [hp,decide_true];exact .d _ _ (.val _)
theorem jD{p:Prop}{i:Decidable p}(hp:¬p):∀S Pm ρ w v,G S Pm ρ w (.pr p i) v->G S Pm ρ w (.val (.bool false)) v:=fun _ _ _ _ v h=>by
 rw [h.pr_inv];simp only [hp,decide_false];exact .d _ _ (.val _)
def zfs(v:Value)(want:Bool):Bool:=
 match v with
 | .bool b=>b==want
 | _=>false
def kr(all:List Oper)(σ:St)(o:Oper)(run:Bool):Prop:=
 match o.guard with
 | none=>run=true
 | some (j,want)=>∃t v,yV all j=some t/\ka σ.L t=some (.val v)/\run=zfs v want
theorem zft(all:List Oper)(j:Nat):yV all j=(all[j]?).bind (·.dst):=by
 induction all generalizing j with
 | nil=>simp [yV]
 | cons o r ih=>cases j with
  | zero=>simp [yV]
  | succ j=>simp [yV,ih]
theorem za6 {all:List Oper} {σ:St} {o:Oper} {run:Bool} (h:kr all σ o run) {a:Act} (hsz:a.tmps.size=σ.nt)
  (hg:∀t v,(∃j want,o.guard=some (j,want)/\yV all j=some t)->ka σ.L t=some (.val v)->t < σ.nt/\a.tmps.getD t undef=v):Region.wanted o (yielded all.toArray a.tmps)=run:=by
 unfold kr at h;unfold Region.wanted
 split at h
 ·rename_i hn;simp [hn,h]
 ·rename_i j want hgd;obtain ⟨t,v,h1,h2,h3⟩:=h;obtain ⟨h4,h5⟩:=hg t v ⟨j,want,hgd,h1⟩ h2
  have h6:a.tmps[t]? =some v:=by
   have hlt:t < a.tmps.size:=hsz ▸ h4;simp [hlt] at h5 ⊢;exact h5
  rw [zft] at h1;simp only [hgd,yielded];have h1':((all.toArray)[j]?).bind (·.dst)=some t:=by simpa using h1
  rw [h1'];simp only [Option.bind_some,h6,h3]
  cases v <;> first | rfl | (rename_i b;cases b <;> cases want <;> rfl)
theorem zcw {P:Program} {Γ:List (TypeId×TI)} (hT:TOK P Γ) {draw:Bool} {all:List Oper} {o:Oper} {r:List Oper} {i:Nat} {σ:St} {K:St->Prop} {E:Env} {ρ:zh} {a:Act} {w:World}
  (hr:Rel E σ ρ a w) (h:jy P Γ draw all (o::r) i σ K):∃σ' run svs s md,jy P Γ draw all r (i+1) (σ'.app o.dst s md) K/\kr all σ' o run/\
   (σ'=σ∨∃t s0 s1,ka σ.L t=some s0/\(∀S Pm ρ w v,G S Pm ρ w s0 v->G S Pm ρ w s1 v)/\σ'=σ.put (some t) s1)/\(∀t,o.dst=some t->t < σ.nt)/\
   ((run=true/\za5 P draw all i o σ' svs s md)∨(run=false/\s=.val undef/\md=.none)):=by
 have run1:∀{σ':St},Rel E σ' ρ a w->ym P Γ draw all i o σ' (fun σ=>jy P Γ draw all r (i+1) σ K)->σ'.nt=σ.nt->∃svs s md,jy P Γ draw all r (i+1) (σ'.app o.dst s md) K/\(∀t,o.dst=some t->t < σ.nt)/\za5 P draw all i o σ' svs s md:=by
  intro σ' hr' h' hn;obtain ⟨svs,s,md,h1,h2⟩:=zeD hT hr' h';exact ⟨svs,s,md,h1,fun t e=>hn ▸ h2.dst t e,h2⟩
 simp only [jy] at h
 split at h
 ·rename_i hg;obtain ⟨svs,s,md,h1,h2,h3⟩:=run1 hr h rfl;exact ⟨σ,true,svs,s,md,h1,by simp [kr,hg],.inl rfl,h2,.inl ⟨rfl,h3⟩⟩
 ·rename_i j want hg
  split at h
  ·exact h.elim
  ·rename_i t ht
   have gv:∀{σ':St} {v:Value},ka σ'.L t=some (.val v)->kr all σ' o (zfs v want):=fun hl=>by
    unfold kr;rw [hg];exact ⟨t,_,ht,hl,rfl⟩
   have gi:∀{σ':St} {b:Bool},ka σ'.L t=some (.val (.bool b))->kr all σ' o (b==want):=fun hl=>gv hl
   have put_look:∀(s1:SV),ka (σ.put (some t) s1).L t=some s1:=fun s1=>by
    show ka ((t,s1)::σ.L) t=some s1;rw [kH];simp
   split at h
   ·rename_i hl
    split at h
    ·obtain ⟨svs,s,md,h1,h2,h3⟩:=run1 hr h rfl;exact ⟨σ,_,svs,s,md,h1,gi hl,.inl rfl,h2,.inl ⟨rfl,h3⟩⟩
    ·obtain ⟨hd,h⟩:=zY h;exact ⟨σ,_,[],_,_,h,gi hl,.inl rfl,hd,.inr ⟨rfl,rfl,rfl⟩⟩
   ·rename_i hl
    split at h
    ·obtain ⟨svs,s,md,h1,h2,h3⟩:=run1 hr h rfl;exact ⟨σ,_,svs,s,md,h1,gi hl,.inl rfl,h2,.inl ⟨rfl,h3⟩⟩
    ·obtain ⟨hd,h⟩:=zY h;exact ⟨σ,_,[],_,_,h,gi hl,.inl rfl,hd,.inr ⟨rfl,rfl,rfl⟩⟩
   ·rename_i p ip hl
    by_cases hp:p
    ·have hr':=hr.refine hl (yO hp)
     split at h
     ·obtain ⟨svs,s,md,h1,h2,h3⟩:=run1 hr' (h.yes hp) rfl;exact ⟨_,_,svs,s,md,h1,gi (put_look _),.inr ⟨t,_,_,hl,yO hp,rfl⟩,h2,.inl ⟨rfl,h3⟩⟩
     ·obtain ⟨hd,h⟩:=zY (h.yes hp);exact ⟨_,_,[],_,_,h,gi (put_look _),.inr ⟨t,_,_,hl,yO hp,rfl⟩,hd,.inr ⟨rfl,rfl,rfl⟩⟩
    ·have hr':=hr.refine hl (jD hp)
     split at h
     ·obtain ⟨hd,h⟩:=zY (h.no hp);exact ⟨_,_,[],_,_,h,gi (put_look _),.inr ⟨t,_,_,hl,jD hp,rfl⟩,hd,.inr ⟨rfl,rfl,rfl⟩⟩
     ·obtain ⟨svs,s,md,h1,h2,h3⟩:=run1 hr' (h.no hp) rfl;exact ⟨_,_,svs,s,md,h1,gi (put_look _),.inr ⟨t,_,_,hl,jD hp,rfl⟩,h2,.inl ⟨rfl,h3⟩⟩
   ·rename_i hl;obtain ⟨hd,h⟩:=zY h;exact ⟨σ,_,[],_,_,h,gv hl,.inl rfl,hd,.inr ⟨rfl,rfl,rfl⟩⟩
   ·exact h.elim
theorem Rel.wanted{E:Env}{σ:St}{ρ:zh}{a:Act}{w:World}(h:Rel E σ ρ a w){all:List Oper}{o:Oper}{run:Bool}(hg:kr all σ o run):Region.wanted o (yielded all.toArray a.tmps)=run:=
 za6 hg h.size fun t _ _ hl=>⟨(h.regs t _ hl).1,(h.regs t _ hl).2.val_inv⟩
theorem zbI {P:Program} {Γ:List (TypeId×TI)} (hT:TOK P Γ) {all:List Oper} {draw:Bool} {E:Env} {Q:Exit->Act->World->Prop} {K:St->Prop}
  (hQ:∀σ ρ a w,K σ->Rel E σ ρ a w->Q .normal a w):∀{l:List Oper} {i:Nat} {σ:St} {ρ:zh} {a:Act} {w:World},Rel E σ ρ a w->jy P Γ draw all l i σ K->wpList P all.toArray Q l a w
 | [],i,σ,ρ,a,w,hr,h=>hQ σ ρ a w h hr
 | o::r,i,σ,ρ,a,w,hr,h=>by
  obtain ⟨σ',run,svs,s,md,h1,hg,href,hd,hrun⟩:=zcw hT hr h
  have hr':Rel E σ' ρ a w:=by
   rcases href with rfl | ⟨t,s0,s1,h2,h3,rfl⟩
   ·exact hr
   ·exact hr.refine h2 h3
  have hnt:σ'.nt=σ.nt:=by rcases href with rfl | ⟨t,s0,s1,h2,h3,rfl⟩ <;> rfl
  unfold wpList;rw [hr'.wanted hg]
  rcases hrun with ⟨rfl,hst⟩ | ⟨rfl,rfl,rfl⟩
  ·simp only [if_true];refine .inl ((hst.does hr').wp fun v w' ha=>?_);obtain ⟨ρ',hrel⟩:=hr'.app (fun t e=>hnt ▸ hd t e) ha;exact zbI hT hQ hrel h1
  ·simp only [Bool.false_eq_true,if_false];obtain ⟨ρ',hrel⟩:=hr'.app (fun t e=>hnt ▸ hd t e) (j2 hr'.mem);exact zbI hT hQ hrel h1
end Go.Gs
