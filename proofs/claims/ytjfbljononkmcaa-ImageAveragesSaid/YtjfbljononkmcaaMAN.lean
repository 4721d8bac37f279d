/- One operation upon an abstract state; a region in the order of its text. -/
import Derived.Test.YtjfbljononkmcaaMA
import Derived.Test.YtjfbljononkmcaaMAM
set_option maxRecDepth 100000
set_option maxHeartbeats 8000000
set_option linter.all false
namespace Go.Gs
theorem zeC{L:List (Nat×SV)}{x:Operand}{K:SV->Prop}(h:ev L x K):
  ∃s,K s/\∀{S Pm:Nat->Prop} {ρ:zd} {a:Act} {w:World},(∀t s,x=.tmp t->ziv L t=some s->G S Pm ρ w s (a.tmps.getD t undef))->G S Pm ρ w s (a.eval x):=by
 unfold ev at h
 split at h
 ·split at h
  ·rename_i t _ s hs;exact ⟨s,zS h,fun hr=>hr _ _ rfl hs⟩
  ·exact h.elim
 ·exact ⟨_,zS h,fun _=>.d _ _ (.val _)⟩
 ·exact ⟨_,h,fun _=>.fn _ [] [] rfl fun j s v h=>by simp at h⟩
 ·exact h.elim
theorem zaA{L:List (Nat×SV)}:∀{xs:List Operand} {K:List SV->Prop},evs L xs K->
  ∃svs,K svs/\∀{S Pm:Nat->Prop} {ρ:zd} {a:Act} {w:World},(∀t s,t∈u9 xs->ziv L t=some s->G S Pm ρ w s (a.tmps.getD t undef))->Gs S Pm ρ w svs (xs.map a.eval)
 | [],K,h=>⟨[],h,fun _=>.nil⟩
 | x::xs,K,h=>by
  obtain ⟨s,h,h1⟩:=zeC h;obtain ⟨svs,h,h2⟩:=zaA h;refine ⟨s::svs,h,fun hr=>.cons (h1 fun t s e hl=>hr t s ?_ hl) (h2 fun t s ht hl=>hr t s ?_ hl)⟩
  ·subst e;exact .head _
  ·cases x <;> first | exact .tail _ ht | exact ht
theorem q9{M:List (Nat×Mem)}{κ k:Nat}{m:Mem}(h:uw M κ k=some m):k < κ/\zl M k=some m:=by
 unfold uw at h
 split at h
 ·rename_i hb;exact ⟨Nat.le_of_ble_eq_true hb,h⟩
 ·cases h
theorem zis{d:Option Tmp}{nt:Nat}{K:Prop}(h:zcF d nt K):(∀t,d=some t->t < nt)/\K:=by
 unfold zcF at h
 split at h
 ·obtain ⟨h1,h2⟩:=zb h;exact ⟨fun t e=>by cases e;exact Nat.le_of_ble_eq_true h1,h2⟩
 ·exact ⟨fun t e=>(by cases e),h⟩
def zh2:MD->Bool
 | .give _ _ _=>true
 | _=>false
def MdOK(all:List Oper)(i κ:Nat)(op:Op)(md:MD):Prop:=
 (isW op=true/\((∀k,md≠.drop k)/\zh2 md=false)/\∀k m,(md=.set k m∨md=.repl k m)->k < κ)∨md=.none∨((∃m,md=.push m)/\(yo op=true∨zb5 all i=true))
theorem zc7{draw:Bool}{all:List Oper}{i κ:Nat}{op:Op}{md:MD}{K:Prop}(h:mdV draw all i κ op md K):K/\(draw=true->MdOK all i κ op md):=by
 unfold mdV at h
 split at h
 ·exact ⟨h,fun e=>by cases e⟩
 ·split at h
  ·rename_i hw
   split at h
   ·exact h.elim
   ·obtain ⟨h1,h2⟩:=zb h;exact ⟨h2,fun _=>.inl ⟨hw,⟨fun k e=>(by cases e),rfl⟩,fun k m e=>by rcases e with e | e <;> cases e;exact Nat.le_of_ble_eq_true h1⟩⟩
   ·obtain ⟨h1,h2⟩:=zb h;exact ⟨h2,fun _=>.inl ⟨hw,⟨fun k e=>(by cases e),rfl⟩,fun k m e=>by rcases e with e | e <;> cases e;exact Nat.le_of_ble_eq_true h1⟩⟩
   ·exact h.elim
   ·rename_i hn hn1 hn2 hn3;exact ⟨h,fun _=>.inl ⟨hw,⟨fun k e=>hn k e,by cases md <;> first | rfl | exact absurd rfl (hn3 _ _ _)⟩,fun k m e=>e.elim (fun e=>absurd e (hn1 k m)) (fun e=>absurd e (hn2 k m))⟩⟩
  ·split at h
   ·exact ⟨h,fun _=>.inr (.inl rfl)⟩
   ·split at h
    ·exact ⟨h,fun _=>.inr (.inr ⟨⟨_,rfl⟩,.inl ‹_›⟩)⟩
    ·rcases h with ⟨ho,hg⟩ | h
     ·exact ⟨hg,fun _=>.inr (.inr ⟨⟨_,rfl⟩,.inr ho⟩)⟩
     ·exact h.elim
   ·exact h.elim
theorem zhc{P:Program}{Γ:List (TypeId×TI)}{op:Op}{svs:List SV}{lm lm':Nat->Option Mem}{κ:Nat}{K:SV->MD->Prop}(hu:yf op=false)(h:opV P Γ op svs lm κ K):opV P Γ op svs lm' κ K:=by
 cases op <;> first | (simp [yf] at hu;done) | (rcases svs with _ | ⟨_,_ | ⟨_,_ | ⟨_,_ | _⟩⟩⟩ <;> exact h)
theorem zO.ex{P:Program}{o:Oper}{a:Act}{w:World}{R:Value->World->Prop}(h:zO P o a w R):∃v w',R v w':=by
 unfold zO Oper.wp at h;generalize (execOp a.eval o).run P w=r at*
 cases r with
 | ok n w'=>
  cases n <;> simp only [Oper.upon] at h
  case value v=>obtain ⟨u,e,hr⟩:=h;exact ⟨u,w',hr⟩
  case skip=>obtain ⟨u,e,hr⟩:=h;exact ⟨u,w',hr⟩
  case defer d=>obtain ⟨u,e,hr⟩:=h;exact ⟨u,w',hr⟩
  case enter f args=>
   obtain ⟨e,w'',fr,hR,_⟩:=h []
   cases e with
   | returned v=>obtain ⟨u,e,hr⟩:=hR;exact ⟨u,w'',hr⟩
   | panicked c=>exact hR.elim
   | outgrown=>obtain ⟨_,_,hf⟩:=hR;exact hf.elim
  case row row args=>
   obtain ⟨v,w'',hR,_⟩:=h default [];obtain ⟨u,e,hr⟩:=hR;exact ⟨u,w'',hr⟩
 | halt x w'=>cases x <;> simp only [Oper.upon] at h
theorem kI{L:List (Nat×SV)}{d t:Nat}{s:SV}:ziv ((d,s)::L) t=if d=t then some s else ziv L t:=by
 simp only [ziv]
 by_cases h:d=t
 ·subst h;simp [Nat.beq_refl]
 ·have:Nat.beq d t=false:=by
   cases hb:Nat.beq d t with
   | false=>rfl
   | true=>exact absurd (Nat.eq_of_beq_eq_true hb) h
  simp [this,h]
theorem zch{a:Act}{d t:Nat}{v:Value}(h:d < a.tmps.size):(a.put (some d) v).tmps.getD t undef=if d=t then v else a.tmps.getD t undef:=by
 simp only [Act.put]
 by_cases hd:d=t
 ·subst hd;simp [h]
 ·simp [hd]
theorem Rel.app {E:Env} {σ:St} {ρ:zd} {a:Act} {w w':World} {d:Option Tmp} {s:SV} {md:MD} {v:Value} (h:Rel E σ ρ a w) (hd:∀t,d=some t->t < σ.nt)
  (ha:zE E.Keep σ.M ρ w σ.nk s md v w'):∃ρ',Rel E (σ.app d s md) ρ' (a.put d v) w':=by
 obtain ⟨ρ',hs,hm,hg,hρ⟩:=ha;refine ⟨ρ',?_⟩
 have hregs:∀t s,ziv σ.L t=some s->t < σ.nt/\G (fun b=>E.Keep b∨Own (jO σ.M σ.nk md) ρ' b) (Own (jO σ.M σ.nk md) ρ') ρ' w' s (a.tmps.getD t undef):=fun t s hl=>
  ⟨(h.regs t s hl).1,((h.regs t s hl).2).stp hs⟩
 have hfresh:∀k,qV σ.nk md<=k->ρ' k=none:=fun k hk=>by
  have h1:σ.nk<=qV σ.nk md:=by cases md <;> simp [qV]
  rw [hρ k (.inr hk)];exact h.fresh k oM
 cases d with
 | none=>exact ⟨h.size,h.defers,hregs,hm,hfresh,h.stp.trans hs,h.keep,h.low⟩
 | some d=>
  have hlt:=hd d rfl;refine ⟨by have:=h.size;simpa [Act.put,St.app] using this,h.defers,fun t s' hl0=>?_,hm,hfresh,h.stp.trans hs,h.keep,h.low⟩;have hl:(if d=t then some s else ziv σ.L t)=some s':=by rw [← kI];exact hl0
  clear hl0;rw [zch (by rw [h.size];exact hlt)]
  by_cases e:d=t
  ·subst e;rw [if_pos rfl] at hl;cases hl
   rw [if_pos rfl];exact ⟨hlt,hg⟩
  ·rw [if_neg e] at hl ⊢;exact hregs t s' hl
theorem Rel.noKey{E:Env}{σ:St}{ρ:zd}{a:Act}{w:World}(h:Rel E σ ρ a w):∀m,(σ.nk,m)∉σ.M:=fun m hm=>by
 obtain ⟨v,hv⟩:=(h.mem.rel _ m hm).name;rw [h.fresh _ (Nat.le_refl _)] at hv;cases hv
theorem j5{Keep:Nat->Prop}{M:List (Nat×Mem)}{ρ:zd}{w:World}{κ:Nat}(hm:zj Keep M ρ w):zE Keep M ρ w κ (.val undef) .none undef w:=zE.same hm (.d _ _ (.val _))
structure zbu (P:Program) (draw:Bool) (all:List Oper) (i:Nat) (o:Oper) (σ:St) (svs:List SV) (s:SV) (md:MD):Prop where
 ok:kE P o.op svs (if yf o.op then uw σ.M σ.nk else fun _=>none) σ.nk s md
 ev:∀{S Pm:Nat->Prop} {ρ:zd} {a:Act} {w:World},(∀t s,t∈u9 (zG o.op)->ziv σ.L t=some s->G S Pm ρ w s (a.tmps.getD t undef))->Gs S Pm ρ w svs ((zG o.op).map a.eval)
 dst:∀t,o.dst=some t->t < σ.nt
 md:draw=true->MdOK all i σ.nk o.op md
theorem zfl {P:Program} {Γ:List (TypeId×TI)} (hT:TOK P Γ) {draw:Bool} {all:List Oper} {i:Nat} {o:Oper} {σ:St} {K:St->Prop} {E:Env} {ρ:zd} {a:Act} {w:World}
  (hr:Rel E σ ρ a w) (h:yu P Γ draw all i o σ K):∃svs s md,K (σ.app o.dst s md)/\zbu P draw all i o σ svs s md:=by
 unfold yu at h;replace h:=uf h;obtain ⟨svs,h,hev⟩:=zaA h;have hg:=hev (a:=a) (fun t s _ hl=>(hr.regs t s hl).2);have hlm:∀k m,uw σ.M σ.nk k=some m->zl σ.M k=some m:=fun k m h=>(q9 h).2
 cases hu:yf o.op with
 | true=>
  obtain ⟨s,md,hK,hok⟩:=vk hT ⟨E.Keep,σ.M,ρ,w,_,hlm,hr.mem,hg⟩ h;obtain ⟨hK,hmd⟩:=zc7 (yr (yq hK));obtain ⟨hd,hK⟩:=zis hK;exact ⟨svs,s,md,hK,by simpa [hu] using hok,hev,hd,hmd⟩
 | false=>
  obtain ⟨s,md,hK,hok⟩:=vk hT ⟨E.Keep,σ.M,ρ,w,_,fun k m h=>(by cases h),hr.mem,hg⟩ (zhc (lm':=fun _=>none) hu h);obtain ⟨hK,hmd⟩:=zc7 (yr (yq hK));obtain ⟨hd,hK⟩:=zis hK;exact ⟨svs,s,md,hK,by simpa [hu] using hok,hev,hd,hmd⟩
theorem zbu.does {P:Program} {draw:Bool} {all:List Oper} {i:Nat} {o:Oper} {σ:St} {svs:List SV} {s:SV} {md:MD} (h:zbu P draw all i o σ svs s md) {E:Env} {ρ:zd} {a:Act} {w:World}
  (hr:Rel E σ ρ a w):zO P o a w (zE E.Keep σ.M ρ w σ.nk s md):=by
 refine h.ok o rfl E.Keep σ.M ρ a w (fun k m hk=>?_) hr.mem (fun k hk _=>hr.fresh k hk) (fun _=>hr.noKey) (h.ev fun t s _ hl=>(hr.regs t s hl).2)
 split at hk
 ·exact (q9 hk).2
 ·cases hk
theorem Rel.refine {E:Env} {σ:St} {ρ:zd} {a:Act} {w:World} (h:Rel E σ ρ a w) {t:Nat} {s s':SV} (hl:ziv σ.L t=some s)
  (hg:∀S Pm ρ w v,G S Pm ρ w s v->G S Pm ρ w s' v):Rel E (σ.put (some t) s') ρ a w:=
 ⟨h.size,h.defers,fun t' s2 hl0=>by
  have hl2:(if t=t' then some s' else ziv σ.L t')=some s2:=by rw [← kI];exact hl0
  clear hl0
  by_cases e:t=t'
  ·subst e;rw [if_pos rfl] at hl2;cases hl2
   exact ⟨(h.regs t s hl).1,hg _ _ _ _ _ (h.regs t s hl).2⟩
  ·rw [if_neg e] at hl2
   exact h.regs t' s2 hl2,h.mem,h.fresh,h.stp,h.keep,h.low⟩
theorem yS{p:Prop}{i:Decidable p}(hp:p):∀S Pm ρ w v,G S Pm ρ w (.pr p i) v->G S Pm ρ w (.val (.bool true)) v:=fun _ _ _ _ v h=>by
 rw [h.pr_inv];simp only [hp,decide_true];exact .d _ _ (.val _)
theorem jD{p:Prop}{i:Decidable p}(hp:¬p):∀S Pm ρ w v,G S Pm ρ w (.pr p i) v->G S Pm ρ w (.val (.bool false)) v:=fun _ _ _ _ v h=>by
 rw [h.pr_inv];simp only [hp,decide_false];exact .d _ _ (.val _)
def zf3(v:Value)(want:Bool):Bool:=
 match v with
 | .bool b=>b==want
 | _=>false
def kw(all:List Oper)(σ:St)(o:Oper)(run:Bool):Prop:=
 match o.guard with
 | none=>run=true
 | some (j,want)=>∃t v,y7 all j=some t/\ziv σ.L t=some (.val v)/\run=zf3 v want
theorem zf4(all:List Oper)(j:Nat):y7 all j=(all[j]?).bind (·.dst):=by
 induction all generalizing j with
 | nil=>simp [y7]
 | cons o r ih=>cases j with
  | zero=>simp [y7]
  | succ j=>simp [y7,ih]
theorem zbv {all:List Oper} {σ:St} {o:Oper} {run:Bool} (h:kw all σ o run) {a:Act} (hsz:a.tmps.size=σ.nt)
  (hg:∀t v,(∃j want,o.guard=some (j,want)/\y7 all j=some t)->ziv σ.L t=some (.val v)->t < σ.nt/\a.tmps.getD t undef=v):Region.wanted o (yielded all.toArray a.tmps)=run:=by
 unfold kw at h;unfold Region.wanted
 split at h
 ·rename_i hn;simp [hn,h]
 ·rename_i j want hgd;obtain ⟨t,v,h1,h2,h3⟩:=h;obtain ⟨h4,h5⟩:=hg t v ⟨j,want,hgd,h1⟩ h2
  have h6:a.tmps[t]? =some v:=by
   have hlt:t < a.tmps.size:=hsz ▸ h4;simp [hlt] at h5 ⊢;exact h5
  rw [zf4] at h1;simp only [hgd,yielded];have h1':((all.toArray)[j]?).bind (·.dst)=some t:=by simpa using h1
  rw [h1'];simp only [Option.bind_some,h6,h3]
  cases v <;> first | rfl | (rename_i b;cases b <;> cases want <;> rfl)
theorem zc8 {P:Program} {Γ:List (TypeId×TI)} (hT:TOK P Γ) {draw:Bool} {all:List Oper} {o:Oper} {r:List Oper} {i:Nat} {σ:St} {K:St->Prop} {E:Env} {ρ:zd} {a:Act} {w:World}
  (hr:Rel E σ ρ a w) (h:jy P Γ draw all (o::r) i σ K):∃σ' run svs s md,jy P Γ draw all r (i+1) (σ'.app o.dst s md) K/\kw all σ' o run/\
   (σ'=σ∨∃t s0 s1,ziv σ.L t=some s0/\(∀S Pm ρ w v,G S Pm ρ w s0 v->G S Pm ρ w s1 v)/\σ'=σ.put (some t) s1)/\(∀t,o.dst=some t->t < σ.nt)/\
   ((run=true/\zbu P draw all i o σ' svs s md)∨(run=false/\s=.val undef/\md=.none)):=by
 have run1:∀{σ':St},Rel E σ' ρ a w->yu P Γ draw all i o σ' (fun σ=>jy P Γ draw all r (i+1) σ K)->σ'.nt=σ.nt->∃svs s md,jy P Γ draw all r (i+1) (σ'.app o.dst s md) K/\(∀t,o.dst=some t->t < σ.nt)/\zbu P draw all i o σ' svs s md:=by
  intro σ' hr' h' hn;obtain ⟨svs,s,md,h1,h2⟩:=zfl hT hr' h';exact ⟨svs,s,md,h1,fun t e=>hn ▸ h2.dst t e,h2⟩
 simp only [jy] at h
 split at h
 ·rename_i hg;obtain ⟨svs,s,md,h1,h2,h3⟩:=run1 hr h rfl;exact ⟨σ,true,svs,s,md,h1,by simp [kw,hg],.inl rfl,h2,.inl ⟨rfl,h3⟩⟩
 ·rename_i j want hg
  split at h
  ·exact h.elim
  ·rename_i t ht
   have gv:∀{σ':St} {v:Value},ziv σ'.L t=some (.val v)->kw all σ' o (zf3 v want):=fun hl=>by
    unfold kw;rw [hg];exact ⟨t,_,ht,hl,rfl⟩
   have gi:∀{σ':St} {b:Bool},ziv σ'.L t=some (.val (.bool b))->kw all σ' o (b==want):=fun hl=>gv hl
   have put_look:∀(s1:SV),ziv (σ.put (some t) s1).L t=some s1:=fun s1=>by
    show ziv ((t,s1)::σ.L) t=some s1;rw [kI];simp
   split at h
   ·rename_i hl
    split at h
    ·obtain ⟨svs,s,md,h1,h2,h3⟩:=run1 hr h rfl;exact ⟨σ,_,svs,s,md,h1,gi hl,.inl rfl,h2,.inl ⟨rfl,h3⟩⟩
    ·obtain ⟨hd,h⟩:=zis h;exact ⟨σ,_,[],_,_,h,gi hl,.inl rfl,hd,.inr ⟨rfl,rfl,rfl⟩⟩
   ·rename_i hl
    split at h
    ·obtain ⟨svs,s,md,h1,h2,h3⟩:=run1 hr h rfl;exact ⟨σ,_,svs,s,md,h1,gi hl,.inl rfl,h2,.inl ⟨rfl,h3⟩⟩
    ·obtain ⟨hd,h⟩:=zis h;exact ⟨σ,_,[],_,_,h,gi hl,.inl rfl,hd,.inr ⟨rfl,rfl,rfl⟩⟩
   ·rename_i p ip hl
    by_cases hp:p
    ·have hr':=hr.refine hl (yS hp)
     split at h
     ·obtain ⟨svs,s,md,h1,h2,h3⟩:=run1 hr' (h.yes hp) rfl;exact ⟨_,_,svs,s,md,h1,gi (put_look _),.inr ⟨t,_,_,hl,yS hp,rfl⟩,h2,.inl ⟨rfl,h3⟩⟩
     ·obtain ⟨hd,h⟩:=zis (h.yes hp);exact ⟨_,_,[],_,_,h,gi (put_look _),.inr ⟨t,_,_,hl,yS hp,rfl⟩,hd,.inr ⟨rfl,rfl,rfl⟩⟩
    ·have hr':=hr.refine hl (jD hp)
     split at h
     ·obtain ⟨hd,h⟩:=zis (h.no hp);exact ⟨_,_,[],_,_,h,gi (put_look _),.inr ⟨t,_,_,hl,jD hp,rfl⟩,hd,.inr ⟨rfl,rfl,rfl⟩⟩
     ·obtain ⟨svs,s,md,h1,h2,h3⟩:=run1 hr' (h.no hp) rfl;exact ⟨_,_,svs,s,md,h1,gi (put_look _),.inr ⟨t,_,_,hl,jD hp,rfl⟩,h2,.inl ⟨rfl,h3⟩⟩
   ·rename_i hl;obtain ⟨hd,h⟩:=zis h;exact ⟨σ,_,[],_,_,h,gv hl,.inl rfl,hd,.inr ⟨rfl,rfl,rfl⟩⟩
   ·exact h.elim
theorem Rel.wanted{E:Env}{σ:St}{ρ:zd}{a:Act}{w:World}(h:Rel E σ ρ a w){all:List Oper}{o:Oper}{run:Bool}(hg:kw all σ o run):Region.wanted o (yielded all.toArray a.tmps)=run:=
 zbv hg h.size fun t _ _ hl=>⟨(h.regs t _ hl).1,(h.regs t _ hl).2.val_inv⟩
theorem zci {P:Program} {Γ:List (TypeId×TI)} (hT:TOK P Γ) {all:List Oper} {draw:Bool} {E:Env} {Q:Exit->Act->World->Prop} {K:St->Prop}
  (hQ:∀σ ρ a w,K σ->Rel E σ ρ a w->Q .normal a w):∀{l:List Oper} {i:Nat} {σ:St} {ρ:zd} {a:Act} {w:World},Rel E σ ρ a w->jy P Γ draw all l i σ K->wpList P all.toArray Q l a w
 | [],i,σ,ρ,a,w,hr,h=>hQ σ ρ a w h hr
 | o::r,i,σ,ρ,a,w,hr,h=>by
  obtain ⟨σ',run,svs,s,md,h1,hg,href,hd,hrun⟩:=zc8 hT hr h
  have hr':Rel E σ' ρ a w:=by
   rcases href with rfl | ⟨t,s0,s1,h2,h3,rfl⟩
   ·exact hr
   ·exact hr.refine h2 h3
  have hnt:σ'.nt=σ.nt:=by rcases href with rfl | ⟨t,s0,s1,h2,h3,rfl⟩ <;> rfl
  unfold wpList;rw [hr'.wanted hg]
  rcases hrun with ⟨rfl,hst⟩ | ⟨rfl,rfl,rfl⟩
  ·simp only [if_true];refine .inl ((hst.does hr').wp fun v w' ha=>?_);obtain ⟨ρ',hrel⟩:=hr'.app (fun t e=>hnt ▸ hd t e) ha;exact zci hT hQ hrel h1
  ·simp only [Bool.false_eq_true,if_false];obtain ⟨ρ',hrel⟩:=hr'.app (fun t e=>hnt ▸ hd t e) (j5 hr'.mem);exact zci hT hQ hrel h1
end Go.Gs
