/- One operation upon an abstract state; a region in the order of its text. -/
import Derived.Test.YtkngjacccoklaaaGreatDoorMA
import Derived.Test.YtkngjacccoklaaaGreatDoorMAH
set_option maxRecDepth 100000
set_option maxHeartbeats 8000000
set_option linter.all false
namespace Go.Gs
variable{L:List (Nat×SV)}
def zcA{x:Operand}{K:SV->Prop}(h:ev L x K):
  ∃s,K s/\∀{S Pm:Nat->Prop} {ρ:zi} {a:Act} {w:World},(∀t s,x=.tmp t->kK L t=some s->G S Pm ρ w s (a.tmps.getD t undef))->G S Pm ρ w s (a.eval x):=by
 unfold ev at h
 split at h
 ·split at h
  ·rename_i t _ s hs;exact⟨s,qy h,λhr=>hr _ _ rfl hs⟩
  exact h.elim
 ·exact⟨_,qy h,λ_=>.d _ _ (.val _)⟩
 ·exact⟨_,h,λ_=>.fn _ [] [] rfl λj s v h=>by simp at h⟩
 exact h.elim
def zgb{L:List (Nat×SV)}:∀{xs:List Operand} {K:List SV->Prop},evs L xs K->
  ∃svs,K svs/\∀{S Pm:Nat->Prop} {ρ:zi} {a:Act} {w:World},(∀t s,t∈zhc xs->kK L t=some s->G S Pm ρ w s (a.tmps.getD t undef))->Gs S Pm ρ w svs (xs.map a.eval)
 |[],K,h=>⟨[],h,λ_=>.nil⟩
 |x::xs,K,h=>by
  obtain⟨s,h,h1⟩:=zcA h;obtain⟨svs,h,h2⟩:=zgb h;refine⟨s::svs,h,λhr=>.cons (h1 λt s e hl=>hr t s ?_ hl) (h2 λt s ht hl=>hr t s ?_ hl)⟩
  ·subst e;exact .head _
  cases x <;> first|exact .tail _ ht|exact ht
variable{M:List (Nat×Mem)}{κ:Nat}
def za7{k:Nat}{m:Mem}(h:zdh M κ k=some m):k<κ/\zS M k=some m:=by
 unfold zdh at h
 split at h
 ·rename_i hb;exact⟨Xz hb,h⟩
 cases h
variable{K:Prop}
def qz{d:Option Tmp}{nt:Nat}(h:zlS d nt K):(∀t,d=some t->t<nt)/\K:=by
 unfold zlS at h
 split at h
 ·obtain⟨h1,h2⟩:=zh h;exact⟨λt e=>by cases e;exact Xz h1,h2⟩
 exact⟨λt e=>(by cases e),h⟩
def zC4:MD->Bool
 |.give _ _ _=>true
 |_=>false
def MdOK(all:List Oper)(i κ:Nat)(op:Op)(md:MD):Prop:=
 (isW op=true/\((∀k,md≠.drop k)/\zC4 md=false)/\∀k m,(md=.set k m∨md=.repl k m)->k<κ)∨md=.none∨((∃m,md=.push m)/\(zdi op=true∨znB all i=true))
variable{draw:Bool}{all:List Oper}{i:Nat}{md:MD}
def zpw{op:Op}(h:mdV draw all i κ op md K):K/\(draw=true->MdOK all i κ op md):=by
 unfold mdV at h
 split at h
 ·exact⟨h,λe=>by cases e⟩
 split at h
 ·rename_i hw
  split at h
  ·exact h.elim
  ·obtain⟨h1,h2⟩:=zh h;exact⟨h2,λ_=>.inl ⟨hw,⟨λk e=>(by cases e),rfl⟩,λk m e=>by rcases e with e|e <;> cases e;exact Xz h1⟩⟩
  ·obtain⟨h1,h2⟩:=zh h;exact⟨h2,λ_=>.inl ⟨hw,⟨λk e=>(by cases e),rfl⟩,λk m e=>by rcases e with e|e <;> cases e;exact Xz h1⟩⟩
  ·exact h.elim
  rename_i hn hn1 hn2 hn3;exact⟨h,λ_=>.inl ⟨hw,⟨λk e=>hn k e,by cases md <;> first|rfl|exact absurd rfl (hn3 _ _ _)⟩,λk m e=>e.elim (λe=>absurd e (hn1 k m)) (λe=>absurd e (hn2 k m))⟩⟩
 split at h
 ·exact⟨h,λ_=>.inr (.inl rfl)⟩
 ·split at h
  ·exact⟨h,λ_=>.inr (.inr ⟨⟨_,rfl⟩,.inl ‹_›⟩)⟩
  obtain⟨ho,hg⟩|h:=h
  ·exact⟨hg,λ_=>.inr (.inr ⟨⟨_,rfl⟩,.inr ho⟩)⟩
  exact h.elim
 exact h.elim
def zAm{P:Program}{Γ:List (TypeId×TI)}{op:Op}{svs:List SV}{lm lm':Nat->Option Mem}{κ:Nat}{K:SV->MD->Prop}(hu:zc4 op=false)(h:opV P Γ op svs lm κ K):opV P Γ op svs lm' κ K:=by
 cases op <;> first|(simp[zc4]at hu;done)|(rcases svs with _|⟨_,_|⟨_,_|⟨_,_|_⟩⟩⟩ <;> exact h)
variable{P:Program}{a:Act}
def qw.ex{o:Oper}{w:World}{R:Value->World->Prop}(h:qw P o a w R):∃v w',R v w':=by
 unfold qw Oper.wp at h;generalize (execOp a.eval o).run P w=r at*
 cases r with
 |ok n w'=>
  cases n <;> simp only[Oper.upon]at h
  case value v=>obtain⟨u,e,hr⟩:=h;exact⟨u,w',hr⟩
  case skip=>obtain⟨u,e,hr⟩:=h;exact⟨u,w',hr⟩
  case defer d=>obtain⟨u,e,hr⟩:=h;exact⟨u,w',hr⟩
  case enter f args=>
   obtain⟨e,w'',fr,hR,_⟩:=h []
   cases e with
   |returned v=>obtain⟨u,e,hr⟩:=hR;exact⟨u,w'',hr⟩
   |panicked c=>exact hR.elim
   |outgrown=>obtain⟨_,_,hf⟩:=hR;exact hf.elim
  case row row args=>
   obtain⟨v,w'',hR,_⟩:=h default [];obtain⟨u,e,hr⟩:=hR;exact⟨u,w'',hr⟩
 |halt x w'=>cases x <;> simp only[Oper.upon]at h
def kq{d t:Nat}{s:SV}:kK ((d,s)::L) t=if d=t then some s else kK L t:=by
 simp only[kK]
 by_cases h:d=t
 ·subst h;simp[K2]
 have:Nat.beq d t=false:=by
  cases hb:Nat.beq d t with
  |false=>rfl
  |true=>exact absurd (Xj hb) h
 simp[this,h]
def zgc{d t:Nat}{v:Value}(h:d<a.tmps.size):(a.put (some d) v).tmps.getD t undef=if d=t then v else a.tmps.getD t undef:=by
 simp only[Act.put]
 by_cases hd:d=t
 ·subst hd;simp[h]
 simp[hd]
def Rel.app{E:Env}{σ:St}{ρ:zi}{a:Act}{w w':World}{d:Option Tmp}{s:SV}{md:MD}{v:Value}(h:Rel E σ ρ a w)(hd:∀t,d=some t->t<σ.nt)(ha:kR E.Keep σ.M ρ w σ.nk s md v w'):∃ρ',Rel E (σ.app d s md) ρ' (a.put d v) w':=by
 obtain⟨ρ',hs,hm,hg,hρ⟩:=ha;refine⟨ρ',?_⟩
 have hregs:∀t s,kK σ.L t=some s->t<σ.nt/\G (λb=>E.Keep b∨Own (zcp σ.M σ.nk md) ρ' b) (Own (zcp σ.M σ.nk md) ρ') ρ' w' s (a.tmps.getD t undef):=λt s hl=>
  ⟨(h.regs t s hl).1,((h.regs t s hl).2).stp hs⟩
 have hfresh:∀k,zbI σ.nk md<=k->ρ' k=none:=λk hk=>by
  have h1:σ.nk<=zbI σ.nk md:=by cases md <;> simp[zbI]
  rw[hρ k (.inr hk)];exact h.fresh k oM
 cases d with
 |none=>exact⟨h.size,h.defers,hregs,hm,hfresh,h.stp.trans hs,h.keep,h.low⟩
 |some d=>
  have hlt:=hd d rfl;refine⟨by have:=h.size;simpa[Act.put,St.app] using this,h.defers,λt s' hl0=>?_,hm,hfresh,h.stp.trans hs,h.keep,h.low⟩;have hl:(if d=t then some s else kK σ.L t)=some s':=by rw[←kq];exact hl0
  clear hl0;rw[zgc (by rw[h.size];exact hlt)]
  by_cases e:d=t
  ·subst e;rw[Xe rfl]at hl;cases hl
   rw[Xe rfl];exact⟨hlt,hg⟩
  rw[Xc e]at hl ⊢;exact hregs t s' hl
variable{E:Env}{σ:St}{ρ:zi}
def Rel.noKey{w:World}(h:Rel E σ ρ a w):∀m,(σ.nk,m)∉σ.M:=λm hm=>by
 obtain⟨v,hv⟩:=(h.mem.rel _ m hm).name;rw[h.fresh _ (Xk _)]at hv;cases hv
def uT{Keep:Nat->Prop}{w:World}(hm:zK Keep M ρ w):kR Keep M ρ w κ (.val undef) .none undef w:=kR.same hm (.d _ _ (.val _))
structure zl3 (P:Program) (draw:Bool) (all:List Oper) (i:Nat) (o:Oper) (σ:St) (svs:List SV) (s:SV) (md:MD):Prop where
 ok:yx P o.op svs (if zc4 o.op then zdh σ.M σ.nk else λ_=>none) σ.nk s md
 ev:∀{S Pm:Nat->Prop} {ρ:zi} {a:Act} {w:World},(∀t s,t∈zhc (k9 o.op)->kK σ.L t=some s->G S Pm ρ w s (a.tmps.getD t undef))->Gs S Pm ρ w svs ((k9 o.op).map a.eval)
 dst:∀t,o.dst=some t->t<σ.nt
 md:draw=true->MdOK all i σ.nk o.op md
variable{Γ:List (TypeId×TI)}
def zuP(hT:TOK P Γ){o:Oper}{K:St->Prop}{w:World}(hr:Rel E σ ρ a w)(h:zdn P Γ draw all i o σ K):∃svs s md,K (σ.app o.dst s md)/\zl3 P draw all i o σ svs s md:=by
 unfold zdn at h;replace h:=zfq h;obtain⟨svs,h,hev⟩:=zgb h;have hg:=hev (a:=a) (λt s _ hl=>(hr.regs t s hl).2);have hlm:∀k m,zdh σ.M σ.nk k=some m->zS σ.M k=some m:=λk m h=>(za7 h).2
 cases hu:zc4 o.op with
 |true=>
  obtain⟨s,md,hK,hok⟩:=zhp hT ⟨E.Keep,σ.M,ρ,w,_,hlm,hr.mem,hg⟩ h;obtain⟨hK,hmd⟩:=zpw (zdm (zdl hK));obtain⟨hd,hK⟩:=qz hK;exact⟨svs,s,md,hK,by simpa[hu] using hok,hev,hd,hmd⟩
 |false=>
  obtain⟨s,md,hK,hok⟩:=zhp hT ⟨E.Keep,σ.M,ρ,w,_,λk m h=>(by cases h),hr.mem,hg⟩ (zAm (lm':=λ_=>none) hu h);obtain⟨hK,hmd⟩:=zpw (zdm (zdl hK));obtain⟨hd,hK⟩:=qz hK;exact⟨svs,s,md,hK,by simpa[hu] using hok,hev,hd,hmd⟩
def zl3.does{o:Oper}{svs:List SV}{s:SV}(h:zl3 P draw all i o σ svs s md){w:World}(hr:Rel E σ ρ a w):qw P o a w (kR E.Keep σ.M ρ w σ.nk s md):=by
 refine h.ok o rfl E.Keep σ.M ρ a w (λk m hk=>?_) hr.mem (λk hk _=>hr.fresh k hk) (λ_=>hr.noKey) (h.ev λt s _ hl=>(hr.regs t s hl).2)
 split at hk
 ·exact(za7 hk).2
 cases hk
def Rel.refine{w:World}(h:Rel E σ ρ a w){t:Nat}{s s':SV}(hl:kK σ.L t=some s)(hg:∀S Pm ρ w v,G S Pm ρ w s v->G S Pm ρ w s' v):Rel E (σ.put (some t) s') ρ a w:=
 ⟨h.size,h.defers,λt' s2 hl0=>by
  have hl2:(if t=t' then some s' else kK σ.L t')=some s2:=by rw[←kq];exact hl0
  clear hl0
  by_cases e:t=t'
  ·subst e;rw[Xe rfl]at hl2;cases hl2
   exact⟨(h.regs t s hl).1,hg _ _ _ _ _ (h.regs t s hl).2⟩
  rw[Xc e]at hl2
  exact h.regs t' s2 hl2,h.mem,h.fresh,h.stp,h.keep,h.low⟩
variable{p:Prop}
def zcB{i:Decidable p}(hp:p):∀S Pm ρ w v,G S Pm ρ w (.pr p i) v->G S Pm ρ w (.val (.bool true)) v:=λ_ _ _ _ v h=>by
 rw[h.pr_inv];simp only[hp,decide_true];exact .d _ _ (.val _)
def za8{i:Decidable p}(hp:¬p):∀S Pm ρ w v,G S Pm ρ w (.pr p i) v->G S Pm ρ w (.val (.bool false)) v:=λ_ _ _ _ v h=>by
 rw[h.pr_inv];simp only[hp,decide_false];exact .d _ _ (.val _)
def zti(v:Value)(want:Bool):Bool:=
 match v with
 |.bool b=>b==want
 |_=>false
def qV(all:List Oper)(σ:St)(o:Oper)(run:Bool):Prop:=
 match o.guard with
 |none=>run=true
 |some (j,want)=>∃t v,zdj all j=some t/\kK σ.L t=some (.val v)/\run=zti v want
def zwR(all:List Oper)(j:Nat):zdj all j=(all[j]?).bind (·.dst):=by
 induction all generalizing j with
 |nil=>simp[zdj]
 |cons o r ih=>cases j with
  |zero=>simp[zdj]
  |succ j=>simp[zdj,ih]
def zl4{o:Oper}{run:Bool}(h:qV all σ o run)(hsz:a.tmps.size=σ.nt)(hg:∀t v,(∃j want,o.guard=some (j,want)/\zdj all j=some t)->kK σ.L t=some (.val v)->t<σ.nt/\a.tmps.getD t undef=v):Region.wanted o (yielded all.toArray a.tmps)=run:=by
 unfold qV at h;unfold Region.wanted
 split at h
 ·rename_i hn;simp[hn,h]
 rename_i j want hgd;obtain⟨t,v,h1,h2,h3⟩:=h;obtain⟨h4,h5⟩:=hg t v ⟨j,want,hgd,h1⟩ h2
 have h6:a.tmps[t]?=some v:=by
  have hlt:t<a.tmps.size:=hsz ▸ h4;simp[hlt]at h5 ⊢;exact h5
 rw[zwR]at h1;simp only[hgd,yielded];have h1':((all.toArray)[j]?).bind (·.dst)=some t:=by simpa using h1
 rw[h1'];simp only[Option.bind_some,h6,h3]
 cases v <;> first|rfl|(rename_i b;cases b <;> cases want <;> rfl)
def zgd(hT:TOK P Γ){o:Oper}{r:List Oper}{K:St->Prop}{w:World}(hr:Rel E σ ρ a w)(h:u6 P Γ draw all (o::r) i σ K):∃σ' run svs s md,u6 P Γ draw all r (i+1) (σ'.app o.dst s md) K/\qV all σ' o run/\
   (σ'=σ∨∃t s0 s1,kK σ.L t=some s0/\(∀S Pm ρ w v,G S Pm ρ w s0 v->G S Pm ρ w s1 v)/\σ'=σ.put (some t) s1)/\(∀t,o.dst=some t->t<σ.nt)/\
   ((run=true/\zl3 P draw all i o σ' svs s md)∨(run=false/\s=.val undef/\md=.none)):=by
 have run1:∀{σ':St},Rel E σ' ρ a w->zdn P Γ draw all i o σ' (λσ=>u6 P Γ draw all r (i+1) σ K)->σ'.nt=σ.nt->∃svs s md,u6 P Γ draw all r (i+1) (σ'.app o.dst s md) K/\(∀t,o.dst=some t->t<σ.nt)/\zl3 P draw all i o σ' svs s md:=by
  intro σ' hr' h' hn;obtain⟨svs,s,md,h1,h2⟩:=zuP hT hr' h';exact⟨svs,s,md,h1,λt e=>hn ▸ h2.dst t e,h2⟩
 simp only[u6]at h
 split at h
 ·rename_i hg;obtain⟨svs,s,md,h1,h2,h3⟩:=run1 hr h rfl;exact⟨σ,true,svs,s,md,h1,by simp[qV,hg],.inl rfl,h2,.inl ⟨rfl,h3⟩⟩
 rename_i j want hg
 split at h
 ·exact h.elim
 rename_i t ht
 have gv:∀{σ':St} {v:Value},kK σ'.L t=some (.val v)->qV all σ' o (zti v want):=λhl=>by
  unfold qV;rw[hg];exact⟨t,_,ht,hl,rfl⟩
 have gi:∀{σ':St} {b:Bool},kK σ'.L t=some (.val (.bool b))->qV all σ' o (b==want):=λhl=>gv hl
 have put_look:∀(s1:SV),kK (σ.put (some t) s1).L t=some s1:=λs1=>by
  show kK ((t,s1)::σ.L) t=some s1;rw[kq];simp
 split at h
 ·rename_i hl
  split at h
  ·obtain⟨svs,s,md,h1,h2,h3⟩:=run1 hr h rfl;exact⟨σ,_,svs,s,md,h1,gi hl,.inl rfl,h2,.inl ⟨rfl,h3⟩⟩
  obtain⟨hd,h⟩:=qz h;exact⟨σ,_,[],_,_,h,gi hl,.inl rfl,hd,.inr ⟨rfl,rfl,rfl⟩⟩
 ·rename_i hl
  split at h
  ·obtain⟨svs,s,md,h1,h2,h3⟩:=run1 hr h rfl;exact⟨σ,_,svs,s,md,h1,gi hl,.inl rfl,h2,.inl ⟨rfl,h3⟩⟩
  obtain⟨hd,h⟩:=qz h;exact⟨σ,_,[],_,_,h,gi hl,.inl rfl,hd,.inr ⟨rfl,rfl,rfl⟩⟩
 ·rename_i p ip hl
  by_cases hp:p
  ·have hr':=hr.refine hl (zcB hp)
   split at h
   ·obtain⟨svs,s,md,h1,h2,h3⟩:=run1 hr' (h.yes hp) rfl;exact⟨_,_,svs,s,md,h1,gi (put_look _),.inr ⟨t,_,_,hl,zcB hp,rfl⟩,h2,.inl ⟨rfl,h3⟩⟩
   obtain⟨hd,h⟩:=qz (h.yes hp);exact⟨_,_,[],_,_,h,gi (put_look _),.inr ⟨t,_,_,hl,zcB hp,rfl⟩,hd,.inr ⟨rfl,rfl,rfl⟩⟩
  have hr':=hr.refine hl (za8 hp)
  split at h
  ·obtain⟨hd,h⟩:=qz (h.no hp);exact⟨_,_,[],_,_,h,gi (put_look _),.inr ⟨t,_,_,hl,za8 hp,rfl⟩,hd,.inr ⟨rfl,rfl,rfl⟩⟩
  obtain⟨svs,s,md,h1,h2,h3⟩:=run1 hr' (h.no hp) rfl;exact⟨_,_,svs,s,md,h1,gi (put_look _),.inr ⟨t,_,_,hl,za8 hp,rfl⟩,h2,.inl ⟨rfl,h3⟩⟩
 ·rename_i hl;obtain⟨hd,h⟩:=qz h;exact⟨σ,_,[],_,_,h,gv hl,.inl rfl,hd,.inr ⟨rfl,rfl,rfl⟩⟩
 exact h.elim
def Rel.wanted{E:Env}{σ:St}{ρ:zi}{a:Act}{w:World}(h:Rel E σ ρ a w){all:List Oper}{o:Oper}{run:Bool}(hg:qV all σ o run):Region.wanted o (yielded all.toArray a.tmps)=run:=
 zl4 hg h.size λt _ _ hl=>⟨(h.regs t _ hl).1,(h.regs t _ hl).2.val_inv⟩
def ziU{P:Program}{Γ:List (TypeId×TI)}(hT:TOK P Γ){all:List Oper}{draw:Bool}{E:Env}{Q:Exit->Act->World->Prop}{K:St->Prop}(hQ:∀σ ρ a w,K σ->Rel E σ ρ a w->Q .normal a w):∀{l:List Oper} {i:Nat} {σ:St} {ρ:zi} {a:Act} {w:World},Rel E σ ρ a w->u6 P Γ draw all l i σ K->wpList P all.toArray Q l a w
 |[],i,σ,ρ,a,w,hr,h=>hQ σ ρ a w h hr
 |o::r,i,σ,ρ,a,w,hr,h=>by
  obtain⟨σ',run,svs,s,md,h1,hg,href,hd,hrun⟩:=zgd hT hr h
  have hr':Rel E σ' ρ a w:=by
   rcases href with rfl|⟨t,s0,s1,h2,h3,rfl⟩
   ·exact hr
   exact hr.refine h2 h3
  have hnt:σ'.nt=σ.nt:=by rcases href with rfl|⟨t,s0,s1,h2,h3,rfl⟩ <;> rfl
  unfold wpList;rw[hr'.wanted hg]
  obtain⟨rfl,hst⟩|⟨rfl,rfl,rfl⟩:=hrun
  ·simp only[if_true];refine .inl ((hst.does hr').wp λv w' ha=>?_);obtain⟨ρ',hrel⟩:=hr'.app (λt e=>hnt ▸ hd t e) ha;exact ziU hT hQ hrel h1
  simp only[Kr,if_false];obtain⟨ρ',hrel⟩:=hr'.app (λt e=>hnt ▸ hd t e) (uT hr'.mem);exact ziU hT hQ hrel h1
end Go.Gs
