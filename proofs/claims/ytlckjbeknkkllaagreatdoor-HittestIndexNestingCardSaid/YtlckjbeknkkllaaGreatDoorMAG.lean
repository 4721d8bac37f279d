/- The table of types, looked at by the kernel; one state says more than another; what one value says of another. -/
import Derived.Test.YtlckjbeknkkllaaGreatDoorMAF
set_option maxRecDepth 100000
set_option maxHeartbeats 8000000
set_option linter.all false
namespace Go.Gs
def vEq:Value->Value->Bool
 |.int k m,.int k' n=>zqX k k'&&decide (m=n)
 |.bool a,.bool b=>a==b
 |.slice none l c,.slice none l' c'=>Nat.beq l l'&&Nat.beq c c'
 |.pointer none,.pointer none=>true
 |.map none,.map none=>true
 |.nilFunc,.nilFunc=>true
 |.nilIface,.nilIface=>true
 |.string a,.string b=>a.data.toList.isEmpty&&b.data.toList.isEmpty
 |_,_=>false
def zDR{a b:Value}(h:vEq a b=true):a=b:=by
 unfold vEq at h
 split at h
 ·simp only[XC,decide_eq_true_eq]at h;rw[zfl h.1,h.2]
 ·simp at h;rw[h]
 ·simp only[XC]at h;rw[Xh h.1,Xh h.2]
 ·rfl
 ·rfl
 ·rfl
 ·rfl
 ·rename_i a b;simp only[XC,List.isEmpty_iff]at h;obtain⟨⟨a⟩⟩:=a;obtain⟨⟨b⟩⟩:=b;simp at h;simp[h]
 cases h
def vsEq:LZ->LZ->Bool
 |[],[]=>true
 |a::r,b::r'=>vEq a b&&vsEq r r'
 |_,_=>false
def zm7:∀{a b:LZ},vsEq a b=true->a=b
 |[],[],_=>rfl
 |[],_::_,h=>by cases h
 |_::_,[],h=>by cases h
 |a::r,b::r',h=>by simp only[vsEq,XC]at h;rw[zDR h.1,zm7 h.2]
def fsEq:List (Nat×TypeId)->List (Nat×TypeId)->Bool
 |[],[]=>true
 |(a,b)::r,(a',b')::r'=>Nat.beq a a'&&(Nat.beq b b'&&fsEq r r')
 |_,_=>false
def zsZ:∀{a b:List (Nat×TypeId)},fsEq a b=true->a=b
 |[],[],_=>rfl
 |[],_::_,h=>by cases h
 |_::_,[],h=>by cases h
 |(a,b)::r,(a',b')::r',h=>by
  simp only[fsEq,XC]at h;rw[Xh h.1,Xh h.2.1,zsZ h.2.2]
def zw4(P:Program)(t:TypeId)(k:TK):Bool:=
 match k,P.underlying t with
 |.int k,some (.int k')=>zqX k' k
 |.bool,some .bool=>true
 |.str,some .string=>true
 |.ptr e,some (.pointer e')=>Nat.beq e' e
 |.slice e,some (.slice e')=>Nat.beq e' e
 |.arr n e,some (.array n' e')=>Nat.beq n' n&&Nat.beq e' e
 |.struct fs,some (.struct F)=>fsEq (F.toList.map λf=>(f.offset,f.type)) fs&&(F.toList.mapM λf=>(P.info? f.type).map λi=>(f.offset,i.size)).isSome
 |.map k e,some (.map k' e')=>Nat.beq k' k&&Nat.beq e' e
 |.other,some (.func _ _ _)=>true
 |.iface,some (.interface _)=>true
 |_,_=>false
variable{P:Program}
def zw5{t:TypeId}{k:TK}(h:zw4 P t k=true):zeN P t k:=by
 unfold zw4 at h
 split at h
 ·rename_i hu;exact(zfl h) ▸ hu
 ·assumption
 ·assumption
 ·rename_i hu;exact(Xh h) ▸ hu
 ·rename_i hu;exact(Xh h) ▸ hu
 ·rename_i hu;simp only[XC]at h;have h1:=Xh h.1;have h2:=Xh h.2;subst h1;subst h2;exact hu
 ·rename_i hu;simp only[XC]at h;exact⟨_,hu,zsZ h.1,Yd.1 h.2⟩
 ·rename_i hu;simp only[XC]at h;have h1:=Xh h.1;have h2:=Xh h.2;subst h1;subst h2;exact hu
 ·rename_i hu;exact⟨_,_,_,hu⟩
 ·rename_i hu;exact⟨_,hu⟩
 cases h
def zw6:Value->Bool
 |.agg _=>true
 |_=>false
def chkT(P:Program)(t:TypeId)(i:TI):Bool:=
 (match P.info? t with
 |some f=>Nat.beq f.size i.sz&&(Nat.beq f.bytes i.bytes&&(match f.zero with
  |some z=>vsEq z.cells.toList i.zero&&((i.kind.agg||z.oneCell')&&(!i.kind.agg||zw6 z))
  |none=>false))
 |none=>false)&&(Nat.beq i.zero.length i.sz&&(i.zero.all (·.oneCell')&&(zw4 P t i.kind&&
 (!i.cmp||(!P.stoodInHeld t&&(!P.eqGuardType P.depth t&&(P.fieldsOf t).toList.all λf=>!(f.name== "_")))))))
def zAO{t:TypeId}{i:TI}(h:chkT P t i=true):zhX P t i:=by
 unfold chkT at h;simp only[XC]at h;obtain⟨h1,h2,h3,h4,h5⟩:=h;refine⟨?_,zw5 h4,λhg=>?_,λhc=>?_⟩
 ·split at h1
  ·rename_i f hf;simp only[XC]at h1;obtain⟨g1,g2,g3⟩:=h1
   split at g3
   ·rename_i z hz;simp only[XC]at g3;exact⟨f,hf,Xh g1,Xh g2,z,hz,zm7 g3.1,λha=>zlf (by simpa[ha] using g3.2.1),Xh h2,λv hv=>XV.1 h3 v hv⟩
   cases g3
  cases h1
 ·split at h1
  ·rename_i f hf;simp only[XC]at h1;obtain⟨g1,g2,g3⟩:=h1
   split at g3
   ·rename_i z hz;simp only[XC,hg,QF,QQ]at g3;refine⟨f,hf,?_⟩
    cases z with
    |agg a=>rw[hz,←zm7 g3.1];simp[Value.cells]
    |_=>exact absurd g3.2.2 (by simp[zw6])
   cases g3
  cases h1
 simp only[hc,QF,QQ,XC,J7]at h5;refine⟨h5.1,h5.2.1,λf hf=>?_⟩;have:=XV.1 h5.2.2 f hf
 simpa using this
def zDS(P:Program)(Γ:LS):Bool:=Γ.all λp=>chkT P p.1 p.2
def zDT{Γ:LS}(h:zDS P Γ=true):TOK P Γ:=by
 intro t i hi
 have hm:(t,i)∈Γ:=by
  clear h
  induction Γ with
  |nil=>cases hi
  |cons x r ih=>
   obtain⟨k,s⟩:=x;simp only[ti]at hi
   split at hi
   ·rename_i hb;have:=Xh hb;subst this;cases hi;exact .head _
   exact .tail _ (ih hi)
 exact zAO (XV.1 h _ hm)
def zas:List (Nat×Option Nat)->Nat->Option LI
 |[],_=>none
 |(k,s)::r,t=>match Nat.beq k t with
  |true=>some s
  |false=>zas r t
def ren(tb:List (Nat×Option Nat))(s:SV):Option SV:=
 match s with
 |.loc k off=>(match zas tb k with
  |some (some j)=>some (.loc j off)
  |_=>none)
 |.own k=>(match zas tb k with
  |some (some j)=>some (.own j)
  |some none=>some (.val (.slice none 0 0))
  |none=>none)
 |.fn f cs=>(match rens tb cs with
  |some cs'=>some (.fn f cs')
  |none=>none)
 |.agg cs=>(match rens tb cs with
  |some cs'=>some (.agg cs')
  |none=>none)
 |.ifc t s=>(match ren tb s with
  |some s'=>some (.ifc t s')
  |none=>none)
 |.tup cs=>(match rens tb cs with
  |some cs'=>some (.tup cs')
  |none=>none)
 |.win k sz lo n=>(match zas tb k with
  |some (some j)=>some (.win j sz lo n)
  |_=>none)
 |.eloc k sz i off=>(match zas tb k with
  |some (some j)=>some (.eloc j sz i off)
  |_=>none)
 |s=>some s
 where
 rens (tb:List (Nat×Option Nat)):LQ->Option LQ
  |[]=>some []
  |c::cs=>(match ren tb c,rens tb cs with
   |some c',some cs'=>some (c'::cs')
   |_,_=>none)
def zm8(tb:List (Nat×Option Nat))(L:LP):LP->Prop
 |[]=>True
 |(t,s)::r=>(match ren tb s with
  |some s'=>z6 L t=some s'
  |none=>False)/\zm8 tb L r
def zm9(tb:List (Nat×Option Nat))(M:LT)(k:Nat)(m:Mem):Prop:=
 match zas tb k with
 |some (some j)=>(match m with
  |.box T cs=>(match ren.rens tb cs with
   |some cs'=>zH M j=some (.box T cs')
   |none=>False)
  |.garr T sz xs=>∃xs',zH M j=some (.garr T sz xs')/\xs'.length=xs.length/\∀(i:Nat) x,xs[i]?=some x->∃x',xs'[i]?=some x'/\ren.rens tb x=some x'
  |m=>zH M j=some m)
 |some none=>(match m with
  |.arr _ _ _ xs=>Nat.beq xs.length 0=true
  |_=>False)
 |none=>False
def zna(tb:List (Nat×Option Nat))(M:LT):LT->Prop
 |[]=>True
 |(k,m)::r=>zm9 tb M k m/\zna tb M r
def zen:List (Nat×Option Nat)->Nat->Bool
 |[],_=>true
 |(k,_)::r,nk=>Nat.blt k nk&&(r.all (λx=>!(Nat.beq x.1 k))&&zen r nk)
def zeo(tb:List (Nat×Option Nat)):Nat->Bool
 |0=>true
 |n+1=>(match zas tb n with
  |some (some j)=>Nat.beq j n&&zeo tb n
  |_=>false)
def zw7:Option LI->Option LI->Bool
 |some (some a),some (some b)=>!(Nat.beq a b)
 |_,_=>true
def vN(tb:List (Nat×Option Nat)):LT->Bool
 |[]=>true
 |(k,_)::r=>r.all (λx=>!(Nat.beq x.1 k)&&zw7 (zas tb x.1) (zas tb k))&&vN tb r
def names(tb:List (Nat×Option Nat))(ρ:ze):ze:=λk=>match zas tb k with
 |some (some j)=>ρ j
 |some none=>some (.slice none 0 0)
 |none=>none
variable{tb:List (Nat×Option Nat)}
def zAP{nk k:Nat}{x:LI}(h:zen tb nk=true)(hk:zas tb k=some x):k<nk:=by
 induction tb with
 |nil=>cases hk
 |cons y r ih=>
  obtain⟨k',j⟩:=y;simp only[zen,XC]at h;simp only[zas]at hk
  split at hk
  ·rename_i hb;have:=Xh hb;subst this;exact Xx h.1
  exact ih h.2.2 hk
def ren_g{S Pm:LG}{ρ:ze}{w:World}:∀(s:SV) {s':SV} {v:Value},ren tb s=some s'->G S Pm ρ w s' v->G S Pm (names tb ρ) w s v:=by
 intro s
 induction s using SV.rec (motive_2:=λcs=>∀{cs':LQ} {vs:LZ},ren.rens tb cs=some cs'->Gs S Pm ρ w cs' vs->Gs S Pm (names tb ρ) w cs vs) with
 |val v=>intro s' u h hg;simp only[ren]at h;cases h;exact .d _ _ (hg.val_inv ▸ .val _)
 |pr p i=>intro s' u h hg;simp only[ren]at h;cases h;rw[hg.pr_inv];exact .d _ _ (.pr p i)
 |agg cs ih=>
  intro s' u h hg;simp only[ren]at h
  split at h
  ·rename_i cs' hc;cases h
   obtain⟨vs,rfl,hvs⟩:=hg.agg_inv;have:=ih hc hvs;exact .agg _ vs this.1 this.2
  cases h
 |sl enc xs=>intro s' u h hg;simp only[ren]at h;cases h;exact .d _ _ hg.sl_inv
 |ptr cs ih=>
  intro s' u h hg;simp only[ren]at h;cases h
  obtain⟨b,o,c,rfl,hb,hP,hc,hd⟩:=hg.ptr_inv;exact .ptr cs b o c hb hP hc hd
 |loc k off=>
  intro s' u h hg;simp only[ren]at h
  split at h
  ·rename_i j hj;cases h
   obtain⟨b,hρ,rfl⟩:=hg.loc_inv;exact .loc _ _ b (by simp[names,hj,hρ])
  cases h
 |own k=>
  intro s' u h hg;simp only[ren]at h
  split at h
  ·rename_i j hj;cases h
   obtain⟨hρ,h1⟩:=hg.own_inv;exact .own _ _ (by simp[names,hj,hρ]) h1
  ·rename_i hj;cases h
   rw[hg.val_inv];exact .own _ _ (by simp[names,hj]) rfl
  cases h
 |win k sz lo n=>
  intro s' u h hg;simp only[ren]at h
  split at h
  ·rename_i j hj;cases h
   obtain⟨b,len,cap,cap',hρ,rfl,h1,h2⟩:=hg.win_inv;exact .win _ _ _ _ b len cap cap' (by simp[names,hj,hρ]) h1 h2
  cases h
 |eloc k sz i off=>
  intro s' u h hg;simp only[ren]at h
  split at h
  ·rename_i j hj;cases h
   obtain⟨b,len,cap,hρ,rfl⟩:=hg.eloc_inv;exact .eloc _ _ _ _ b len cap (by simp[names,hj,hρ])
  cases h
 |fn f cs ih=>
  intro s' u h hg;simp only[ren]at h
  split at h
  ·rename_i cs' hc;cases h
   obtain⟨vs,rfl,hvs⟩:=hg.fn_inv;have:=ih hc hvs;exact .fn f _ vs this.1 this.2
  cases h
 |tup cs ih=>
  intro s' u h hg;simp only[ren]at h
  split at h
  ·rename_i cs' hc;cases h
   obtain⟨vs,rfl,hvs⟩:=hg.tup_inv;have:=ih hc hvs;exact .tup _ vs this.1 this.2
  cases h
 |dptr cs ih=>intro s' u h hg;simp only[ren]at h;cases h;cases hg with|d _ _ h=>exact .d _ _ h
 |dfn f cs ih=>intro s' u h hg;simp only[ren]at h;cases h;cases hg with|d _ _ h=>exact .d _ _ h
 |bm f cs ih=>intro s' u h hg;simp only[ren]at h;cases h;cases hg with|d _ _ h=>exact .d _ _ h
 |op v=>intro s' u h hg;simp only[ren]at h;cases h;cases hg with|d _ _ h=>exact .d _ _ h
 |ifc t s ih=>
  intro s' u h hg;simp only[ren]at h
  split at h
  ·rename_i s1 hs;cases h
   obtain⟨v,rfl,hv⟩:=hg.ifc_inv;exact .ifc t s v (ih hs hv)
  cases h
 |junk=>intro s' u h hg;exact .d _ _ (.junk u)
 |nils=>intro s' u h hg;simp only[ren]at h;cases h;obtain⟨a,rfl⟩:=hg.nils_inv;exact .d _ _ (.nils a)
 |full enc xs=>intro s' u h hg;simp only[ren]at h;cases h;obtain⟨a,rfl,hd⟩:=hg.full_inv;exact .d _ _ (.full enc xs a hd)
 |anyb=>intro s' u h hg;simp only[ren]at h;cases h;obtain⟨b,rfl⟩:=hg.anyb_inv;exact .d _ _ (.anyb b)
 |nil=>rename_i h hg;simp only[ren.rens]at h;cases h;rw[hg.nil_inv];exact .nil
 |cons c cs ihc ihcs=>
  rename_i h hg;simp only[ren.rens]at h
  split at h
  ·rename_i c' cs'' hc hcs;cases h
   obtain⟨v,vs',rfl,h1,h2⟩:=hg.cons_inv;exact .cons (ihc hc h1) (ihcs hcs h2)
  cases h
def zlr{tb:List (Nat×Option Nat)}{L:LP}:∀{L':LP},zm8 tb L L'->∀t s,z6 L' t=some s->∃s',ren tb s=some s'/\z6 L t=some s'
 |[],_,t,s,h=>by cases h
 |(t0,s0)::r,hL,t,s,h=>by
  obtain⟨h1,h2⟩:=hL;rw[zK]at h
  split at h
  ·rename_i e;subst e;cases h
   split at h1
   ·exact⟨_,‹_›,h1⟩
   exact h1.elim
  exact zlr h2 t s h
def zi0{tb:List (Nat×Option Nat)}{M:LT}:∀{M':LT},zna tb M M'->∀k m,(k,m)∈M'->zm9 tb M k m
 |[],_,k,m,h=>by cases h
 |(k0,m0)::r,hM,k,m,h=>by
  cases h with
  |head=>exact hM.1
  |tail _ h=>exact zi0 hM.2 k m h
def zls{tb:List (Nat×Option Nat)}:∀{M:LT},vN tb M=true->M.Pairwise λa b=>a.1≠b.1
 |[],_=>.nil
 |(k,m)::r,h=>by
  simp only[vN,XC]at h;refine XY.2 ⟨λx hx e=>?_,zls h.2⟩;have:=XV.1 h.1 x hx;have e:k=x.1:=e;simp[←e,K4]at this
def zi1{tb:List (Nat×Option Nat)}:∀{M:LT},vN tb M=true->∀{k k' j:Nat} {m m':Mem},(k,m)∈M->(k',m')∈M->zas tb k=some (some j)->zas tb k'=some (some j)->k=k'
 |[],_,_,_,_,_,_,h,_,_,_=>by cases h
 |(q,n)::r,h,k,k',j,m,m',hk,hk',h1,h2=>by
  simp only[vN,XC]at h;have hall:=XV.1 h.1
  have no:∀x∈r,zas tb x.1=some (some j)->zas tb q=some (some j)->False:=λx hx e1 e2=>by
   have:=hall x hx;rw[e1,e2]at this;simp[zw7,K4]at this
  cases hk with
  |head=>cases hk' with
   |head=>rfl
   |tail _ hk'=>exact(no _ hk' h2 h1).elim
  |tail _ hk=>cases hk' with
   |head=>exact(no _ hk h1 h2).elim
   |tail _ hk'=>exact zi1 h.2 hk hk' h1 h2
def zoM{tb:List (Nat×Option Nat)}:∀{n:Nat},zeo tb n=true->∀k,k<n->zas tb k=some (some k)
 |0,_,k,hk=>oM
 |n+1,h,k,hk=>by
  simp only[zeo]at h
  split at h
  ·rename_i j hj;simp only[XC]at h;have:=Xh h.1;subst this
   by_cases e:k=j
   ·subst e;exact hj
   exact zoM h.2 k oM
  cases h
def zi2:∀(cs cs':LQ),ren.rens tb cs=some cs'->cs'.length=cs.length/\∀(i:Nat) (s:SV),cs[i]?=some s->∃s',cs'[i]?=some s'/\ren tb s=some s':=by
  intro cs
  induction cs with
  |nil=>intro cs' h;simp only[ren.rens]at h;cases h;exact⟨rfl,λi s h=>by simp at h⟩
  |cons c cs ih=>
   intro cs' h;simp only[ren.rens]at h
   split at h
   ·rename_i c' cs'' hc hcs;cases h
    obtain⟨e1,e2⟩:=ih cs'' hcs;refine⟨by simp[e1],λi s hi=>?_⟩
    cases i with
    |zero=>simp at hi;subst hi;exact⟨c',rfl,hc⟩
    |succ i=>simpa using e2 i s (by simpa using hi)
   cases h
def qa{σ:St}(tb:List (Nat×Option Nat)){L':LP}{M':LT}{nk':Nat}(h1:zen tb nk'=true)(h2:zeo tb σ.n0=true)(h3:vN tb M'=true)(hL:zm8 tb σ.L L')(hM:zna tb σ.M M'):Sub σ ⟨L',M',nk',σ.nt,σ.n0⟩:=by
 intro E ρ a w hr;refine⟨names tb ρ,?_⟩
 have hnm:∀k v,names tb ρ k=some v->(∃j,zas tb k=some (some j)/\ρ j=some v)∨(zas tb k=some none/\v=.slice none 0 0):=by
  intro k v h;unfold names at h
  split at h
  ·exact .inl ⟨_,‹_›,h⟩
  ·cases h;exact .inr ⟨‹_›,rfl⟩
  cases h
 have hlook:∀k j m,(k,m)∈M'->zas tb k=some (some j)->∃m0,(j,m0)∈σ.M:=by
  intro k j m hk hj;have:=zi0 hM k m hk;unfold zm9 at this;rw[hj]at this;simp only at this
  split at this
  ·split at this
   ·exact⟨_,zn this⟩
   exact this.elim
  ·obtain⟨xs',h,_⟩:=this;exact⟨_,zn h⟩
  exact⟨_,zn this⟩
 have hown:∀b,Own M' (names tb ρ) b->Own σ.M ρ b:=by
  rintro b ⟨k,m,v,hk,hv,hb⟩
  obtain⟨j,hj,hρ⟩|⟨_,rfl⟩:=hnm k v hv
  ·obtain⟨m0,hm0⟩:=hlook k j m hk hj;exact⟨j,m0,v,hm0,hρ,hb⟩
  cases hb
 have hg:∀s s' v,ren tb s=some s'->G (λb=>E.Keep b∨Own σ.M ρ b) (Own σ.M ρ) ρ w s' v->G (λb=>E.Keep b∨Own M' (names tb ρ) b) (Own M' (names tb ρ)) (names tb ρ) w s v:=λs s' v hs h=>
  ren_g s hs (h.mono (Xi _) (λb _ hb=>⟨λh=>hb (h.imp id (hown b)),rfl⟩) (λb _ hb=>⟨λh=>hb (hown b h),rfl⟩) (λ_ _ h=>h))
 refine⟨hr.size,hr.defers,λt s hl=>?_,⟨λk m hk=>?_,zls h3,λk m k' m' v v' b hk hk' hne hv hv' hb=>?_,λb hb=>hr.mem.old b (hown b hb),hr.mem.kp,hr.mem.glO hown⟩,λk hk=>?_,?_,hr.keep,hr.low⟩
 ·obtain⟨s',hs',hl'⟩:=zlr hL t s hl;exact⟨(hr.regs t s' hl').1,hg s s' _ hs' (hr.regs t s' hl').2⟩
 ·have hsm:=zi0 hM k m hk;unfold zm9 at hsm
  split at hsm
  ·rename_i j hj;have hkj:names tb ρ k=ρ j:=by simp[names,hj]
   split at hsm
   ·rename_i T cs
    split at hsm
    ·rename_i cs' hcs;obtain⟨b,vs,g1,g2,g3,g4,g5⟩:=hr.mem.rel j _ (zn hsm);obtain⟨e1,e2⟩:=zi2 cs cs' hcs;refine⟨b,vs,hkj.trans g1,g2,by rw[g3,e1],g4,λi s v hi hv=>?_⟩;obtain⟨s',hs',hren⟩:=e2 i s hi;exact hg s s' v hren (g5 i s' v hs' hv)
    exact hsm.elim
   ·rename_i T sz xs;obtain⟨xs',hlk,e1,e2⟩:=hsm;obtain⟨v,cells,g1,g2,g3,g4,g5,g6⟩:=hr.mem.rel j _ (zn hlk);refine⟨v,cells,hkj.trans g1,by rw[←e1];exact g2,by rw[←e1];exact g3,g4,λx hx=>?_,λi j x s hx hs=>?_⟩
    ·obtain⟨i,hi⟩:=Ju.1 hx;obtain⟨x',hx',hr'⟩:=e2 i x hi;rw[←(zi2 x x' hr').1];exact g5 x' (Xf hx')
    obtain⟨x',hx',hr'⟩:=e2 i x hx;obtain⟨s',hs',hren⟩:=(zi2 x x' hr').2 j s hs;obtain⟨u,hu,hd⟩:=g6 i j x' s' hx' hs';exact⟨u,hu,hg s s' u hren hd⟩
   rename_i hnb hnb2;have hmr:=hr.mem.rel j _ (zn hsm)
   cases m with
   |box T cs=>exact(hnb T cs rfl).elim
   |garr T sz xs=>exact(hnb2 T sz xs rfl).elim
   |map es=>
    obtain⟨r,ents,clock,g1,g2,g3,g4⟩:=hmr;refine⟨r,ents,clock,hkj.trans g1,g2,g3,λi n s hi=>?_⟩;obtain⟨e,e1,e2,e3⟩:=g4 i n s hi;exact⟨e,e1,e2,e3.less λb hb=>hb.imp id (hown b)⟩
   |arr T enc sz xs=>
    obtain⟨v,cells,g1,g2,g3,g4,g5,g6⟩:=hmr;refine⟨v,cells,hkj.trans g1,g2,g3,g4,g5,λi j x s hx hs=>?_⟩;obtain⟨u,hu,hd⟩:=g6 i j x s hx hs;exact⟨u,hu,hd.less λb hb=>hb.imp id (hown b)⟩
  ·rename_i hj
   split at hsm
   ·rename_i T α enc sz xs;have h0:=Xh hsm;have hx:xs=[]:=Xo h0;subst hx;exact⟨.slice none 0 0,[],by simp[names,hj],World.ownsRow_nil w 0 T sz,sI,λu hu=>(by cases hu),λx hx=>(by cases hx),λi j x s hx=>(by simp at hx)⟩
   exact hsm.elim
  exact hsm.elim
 ·obtain⟨j,hj,hρ⟩|⟨_,rfl⟩:=hnm k v hv
  ·obtain⟨j',hj',hρ'⟩|⟨_,rfl⟩:=hnm k' v' hv'
   ·obtain⟨m0,hm0⟩:=hlook k j m hk hj;obtain⟨m0',hm0'⟩:=hlook k' j' m' hk' hj';refine hr.mem.apart j m0 j' m0' v v' b hm0 hm0' (λe=>hne ?_) hρ hρ' hb;subst e;exact zi1 h3 hk hk' hj hj'
   simp[kI]
  cases hb
 ·have:zas tb k=none:=by
   cases hq:zas tb k with
   |none=>rfl
   |some x=>have:=zAP h1 hq;have hk:nk'<=k:=hk;omega
  simp[names,this]
 have hs:=hr.stp;refine⟨hs.os,hs.tape,hs.output,hs.size,hs.block,λb hb=>hs.own b (hown b hb),λk v hk=>?_⟩;have:=zoM h2 k (hr.low k v hk);simp[names,this,hs.rho k v hk]
variable{σ:St}{L':LP}{M':LT}{nk':Nat}
def qN(tb:List (Nat×Option Nat))(hL:zm8 tb σ.L L')(hM:zna tb σ.M M')(h1:zen tb nk'=true:=by rfl)(h2:zeo tb σ.n0=true:=by rfl)(h3:vN tb M'=true:=by rfl):Sub σ ⟨L',M',nk',σ.nt,σ.n0⟩:=qa tb h1 h2 h3 hL hM
def zhw(tb:List (Nat×Option Nat))(hM:zna tb σ.M M')(hL:zm8 tb σ.L L':=by (repeat (refine⟨rfl,?_⟩));exact trivial)(h1:zen tb nk'=true:=by rfl)(h2:zeo tb σ.n0=true:=by rfl)(h3:vN tb M'=true:=by rfl):Sub σ ⟨L',M',nk',σ.nt,σ.n0⟩:=qa tb h1 h2 h3 hL hM
def zA(tb:List (Nat×Option Nat))(hM:zna tb σ.M M':=by (repeat (refine⟨rfl,?_⟩));exact trivial)(hL:zm8 tb σ.L L':=by (repeat (refine⟨rfl,?_⟩));exact trivial)(h1:zen tb nk'=true:=by rfl)(h2:zeo tb σ.n0=true:=by rfl)(h3:vN tb M'=true:=by rfl):Sub σ ⟨L',M',nk',σ.nt,σ.n0⟩:=qa tb h1 h2 h3 hL hM
def Tb:Nat->LB->List (Nat×Option Nat)
 |_,[]=>[]
 |n,x::r=>(n,some x)::Tb (n+1) r
def ku(l:LB)(hL:zm8 (Tb 0 l) σ.L L')(hM:zna (Tb 0 l) σ.M M')(h1:zen (Tb 0 l) nk'=true:=by rfl)(h2:zeo (Tb 0 l) σ.n0=true:=by rfl)(h3:vN (Tb 0 l) M'=true:=by rfl):Sub σ ⟨L',M',nk',σ.nt,σ.n0⟩:=qa _ h1 h2 h3 hL hM
def zt(l:LB)(hM:zna (Tb 0 l) σ.M M')(hL:zm8 (Tb 0 l) σ.L L':=by (repeat (refine⟨rfl,?_⟩));exact trivial)(h1:zen (Tb 0 l) nk'=true:=by rfl)(h2:zeo (Tb 0 l) σ.n0=true:=by rfl)(h3:vN (Tb 0 l) M'=true:=by rfl):Sub σ ⟨L',M',nk',σ.nt,σ.n0⟩:=qa _ h1 h2 h3 hL hM
def zi(l:LB)(hM:zna (Tb 0 l) σ.M M':=by (repeat (refine⟨rfl,?_⟩));exact trivial)(hL:zm8 (Tb 0 l) σ.L L':=by (repeat (refine⟨rfl,?_⟩));exact trivial)(h1:zen (Tb 0 l) nk'=true:=by rfl)(h2:zeo (Tb 0 l) σ.n0=true:=by rfl)(h3:vN (Tb 0 l) M'=true:=by rfl):Sub σ ⟨L',M',nk',σ.nt,σ.n0⟩:=qa _ h1 h2 h3 hL hM
def jj{σ:St}{t:Nat}{s s':SV}(hl:z6 σ.L t=some s)(h:∀S Pm ρ w v,G S Pm ρ w s v->G S Pm ρ w s' v):Sub σ (σ.put (some t) s'):=λ_ ρ _ _ hr=>⟨ρ,hr.refine hl h⟩
def Sub.trans{σ' σ'':St}(h:Sub σ σ')(k:Sub σ' σ''):Sub σ σ'':=λE ρ a w hr=>by
 obtain⟨ρ',h1⟩:=h E ρ a w hr;exact k E ρ' a w h1
def zbX{σ:St}(k k0:Nat){T T0:TypeId}{α:Type}{enc:α->LQ}{sz sz0:Nat}{ys:List α}{xs xs':LM}(hk:zH σ.M k=some (.arr T enc sz ys))(h0:zH σ.M k0=some (.garr T0 sz0 xs))(hl:xs'.length=xs.length)(hz:∀x∈xs',x.length=sz0)(hx:∀(i j:Nat) x' s',xs'[i]?=some x'->x'[j]?=some s'->∃x s,xs[i]?=some x/\x[j]?=some s/\(s'=s∨(s=.own k/\s'=.sl enc ys))):
  Sub σ ⟨σ.L,kO (z5 σ.M k) k0 (.garr T0 sz0 xs'),σ.nk,σ.nt,σ.n0⟩:=by
 intro E ρ a w hr;refine⟨ρ,?_⟩;have hmem:=zn hk;have hsub:∀x∈z5 σ.M k,x∈σ.M:=λx hx=>kF x hx
 have hpd:=k7 (k:=k) hr.mem.keys;have hkeys:(kO (z5 σ.M k) k0 (.garr T0 sz0 xs')).map (·.1)=(z5 σ.M k).map (·.1):=u0;have hown:∀b,Own (kO (z5 σ.M k) k0 (.garr T0 sz0 xs')) ρ b->Own (z5 σ.M k) ρ b:=λb hb=>uF hkeys.symm hb
 have hown2:∀b,Own (z5 σ.M k) ρ b->Own σ.M ρ b:=λb ⟨k',m,v,h1,h2,h3⟩=>⟨k',m,v,hsub _ h1,h2,h3⟩
 have hg:∀s v,G (λb=>E.Keep b∨Own σ.M ρ b) (Own σ.M ρ) ρ w s v->
   G (λb=>E.Keep b∨Own (kO (z5 σ.M k) k0 (.garr T0 sz0 xs')) ρ b) (Own (kO (z5 σ.M k) k0 (.garr T0 sz0 xs')) ρ) ρ w s v:=λs v h=>
  h.mono (Xi _) (λb _ hb=>⟨λh=>hb (h.imp id λh=>hown2 b (hown b h)),rfl⟩) (λb _ hb=>⟨λh=>hb (hown2 b (hown b h)),rfl⟩) (λ_ _ h=>h)
 have hs:Stp (Own σ.M ρ) (Own (kO (z5 σ.M k) k0 (.garr T0 sz0 xs')) ρ) ρ ρ w w:=
  ⟨rfl,rfl,.refl _,Xi _,λ_ _ _=>rfl,λb hb=>.inl (hown2 b (hown b hb)),λ_ _ h=>h⟩
 have hd:∀v,ρ k=some v->D (λb=>E.Keep b∨Own (kO (z5 σ.M k) k0 (.garr T0 sz0 xs')) ρ b) w (.sl enc ys) v:=λv hv=>
  zej hr.mem hmem (λb hb=>hb.imp id λh=>hown2 b (hown b h)) (λv' b hv' hb hSb=>by
   rcases hSb with hSb|hSb
   ·exact(hr.mem.old b ⟨k,_,v',hmem,hv',hb⟩).2 hSb
   obtain⟨k',m',v1,h4,h5,h6⟩:=hown b hSb
   exact hr.mem.apart k _ k' m' v' v1 b hmem (hsub _ h4) (YM (yP hr.mem.keys _ h4)) hv' h5 hb h6) hv
 refine⟨hr.size,hr.defers,λt s hl=>⟨(hr.regs t s hl).1,hg s _ (hr.regs t s hl).2⟩,⟨λk1 m1 h1=>?_,jC hkeys hpd,λk1 m1 k2 m2 v1 v2 b h1 h2=>?_,λb hb=>hr.mem.old b (hown2 b (hown b hb)),hr.mem.kp,hr.mem.glO λb hb=>hown2 b (hown b hb)⟩,
  hr.fresh,hr.stp.trans hs,hr.keep,hr.low⟩
 ·obtain⟨_,h2⟩|h2:=qJ hpd _ h1
  ·exact(hr.mem.rel k1 m1 (hsub _ h2)).keep hs rfl (λ_ _ _ _=>rfl)
  cases h2
  obtain⟨v,cells,g1,g2,g3,g4,g5,g6⟩:=hr.mem.rel k0 _ (zn h0);refine⟨v,cells,g1,by rw[hl];exact g2,by rw[hl];exact g3,g4,hz,λi j x' s' hx' hs'=>?_⟩;obtain⟨x,s,e1,e2,e3⟩:=hx i j x' s' hx' hs';obtain⟨u,hu,hgu⟩:=g6 i j x s e1 e2;refine⟨u,hu,?_⟩
  rcases e3 with rfl|⟨rfl,rfl⟩
  ·exact hg _ _ hgu
  exact .d _ _ (hd u hgu.own_inv.1)
 have back:∀k1 m1,(k1,m1)∈kO (z5 σ.M k) k0 (.garr T0 sz0 xs')->∃m',(k1,m')∈σ.M:=λk1 m1 h=>by
  obtain⟨_,h2⟩|h2:=qJ hpd _ h
  ·exact⟨m1,hsub _ h2⟩
  cases h2;exact⟨_,zn h0⟩
 obtain⟨m1',h1'⟩:=back _ _ h1;obtain⟨m2',h2'⟩:=back _ _ h2;exact hr.mem.apart k1 m1' k2 m2' v1 v2 b h1' h2'
variable{α:Type}
def zcW(k0:Nat){T0:TypeId}(enc:α->LQ){sz0:Nat}(ys:List α)(h0:zH σ.M k0=some (.garr T0 sz0 (ys.map enc)))(hf:∀x∈ys,jw.flats (enc x)=true):
  Sub σ ⟨σ.L,kO σ.M k0 (.arr T0 enc sz0 ys),σ.nk,σ.nt,σ.n0⟩:=by
 intro E ρ a w hr;refine⟨ρ,?_⟩;have hkeys:(kO σ.M k0 (.arr T0 enc sz0 ys)).map (·.1)=σ.M.map (·.1):=u0;have hown:∀b,Own (kO σ.M k0 (.arr T0 enc sz0 ys)) ρ b->Own σ.M ρ b:=λb hb=>uF hkeys.symm hb
 have hg:∀s v,G (λb=>E.Keep b∨Own σ.M ρ b) (Own σ.M ρ) ρ w s v->
   G (λb=>E.Keep b∨Own (kO σ.M k0 (.arr T0 enc sz0 ys)) ρ b) (Own (kO σ.M k0 (.arr T0 enc sz0 ys)) ρ) ρ w s v:=λs v h=>
  h.mono (Xi _) (λb _ hb=>⟨λh=>hb (h.imp id (hown b)),rfl⟩) (λb _ hb=>⟨λh=>hb (hown b h),rfl⟩) (λ_ _ h=>h)
 have hs:Stp (Own σ.M ρ) (Own (kO σ.M k0 (.arr T0 enc sz0 ys)) ρ) ρ ρ w w:=
  ⟨rfl,rfl,.refl _,Xi _,λ_ _ _=>rfl,λb hb=>.inl (hown b hb),λ_ _ h=>h⟩
 have back:∀k1 m1,(k1,m1)∈kO σ.M k0 (.arr T0 enc sz0 ys)->∃m',(k1,m')∈σ.M:=λk1 m1 h=>by
  obtain⟨_,h2⟩|h2:=qJ hr.mem.keys _ h
  ·exact⟨m1,h2⟩
  cases h2;exact⟨_,zn h0⟩
 refine⟨hr.size,hr.defers,λt s hl=>⟨(hr.regs t s hl).1,hg s _ (hr.regs t s hl).2⟩,⟨λk1 m1 h1=>?_,jC hkeys hr.mem.keys,λk1 m1 k2 m2 v1 v2 b h1 h2=>?_,λb hb=>hr.mem.old b (hown b hb),hr.mem.kp,hr.mem.glO hown⟩,
  hr.fresh,hr.stp.trans hs,hr.keep,hr.low⟩
 ·obtain⟨_,h2⟩|h2:=qJ hr.mem.keys _ h1
  ·exact(hr.mem.rel k1 m1 h2).keep hs rfl (λ_ _ _ _=>rfl)
  cases h2
  obtain⟨v,cells,g1,g2,g3,g4,g5,g6⟩:=hr.mem.rel k0 _ (zn h0);rw[Xz]at g2 g3;refine⟨v,cells,g1,g2,g3,g4,λx hx=>g5 _ (XL.2 ⟨x,hx,rfl⟩),λi j x s hx hs'=>?_⟩;obtain⟨u,hu,hgu⟩:=g6 i j (enc x) s (by rw[XA,hx];rfl) hs';exact⟨u,hu,y9 (jY (hf x (Xf hx)) j s hs') (hg _ _ hgu)⟩
 obtain⟨m1',h1'⟩:=back _ _ h1;obtain⟨m2',h2'⟩:=back _ _ h2;exact hr.mem.apart k1 m1' k2 m2' v1 v2 b h1' h2'
abbrev i64(n:Int):SV:=.val (.int .i64 n)
abbrev u8(n:Int):SV:=.val (.int .u8 n)
abbrev bl(b:Bool):SV:=.val (.bool b)
abbrev pr(p:Prop)[i:Decidable p]:SV:=.pr p i
abbrev R64(n:Int):Prop:= -9223372036854775808<=n/\n<=9223372036854775807
def LE.refl{s:SV}:LE s s:=λ_ _ _ _ _ h=>h
variable{r:SV}
def zat{s:SV}(h:s=r):LE s r:=h ▸ .refl
variable{m:Int}
def zh{k:IntKind}{n:Int}(h:m=n):LE (.val (.int k m)) (.val (.int k n)):=by subst h;exact .refl
def zr{p q:Prop}{i:Decidable p}{j:Decidable q}(h:p↔q):LE (.pr p i) (.pr q j):=λS Pm ρ w v hg=>by
 rw[hg.pr_inv]
 have:@decide p i=@decide q j:=by
  by_cases hp:p
  ·simp[hp,h.1 hp]
  have hq:¬q:=λhq=>hp (h.2 hq)
  simp[hp,hq]
 rw[this];exact .d _ _ (.pr q j)
variable{q:Prop}{j:Decidable q}
def zI(h:q):LE (.val (.bool true)) (.pr q j):=λS Pm ρ w v hg=>by
 rw[hg.val_inv];have:=G.d (S:=S) (Pm:=Pm) (ρ:=ρ) (w:=w) _ _ (.pr q j)
 simpa[h] using this
def zc(h:¬q):LE (.val (.bool false)) (.pr q j):=λS Pm ρ w v hg=>by
 rw[hg.val_inv];have:=G.d (S:=S) (Pm:=Pm) (ρ:=ρ) (w:=w) _ _ (.pr q j)
 simpa[h] using this
def zs0{v:Value}(h:ifB v=true):LE (.val v) (.op v):=λS Pm ρ w u hg=>by
 rw[hg.val_inv];exact .d _ _ (.op v h)
variable{p:Prop}{i:Decidable p}
def zrm(h:p):LE (.pr p i) (.val (.bool true)):=λS Pm ρ w v hg=>by
 rw[hg.pr_inv];simp only[h,decide_true];exact .d _ _ (.val _)
variable{b:Bool}
def zs1(h:p↔b=true):LE (.pr p i) (.val (.bool b)):=λS Pm ρ w v hg=>by
 rw[hg.pr_inv];have:@decide p i=b:=by cases b <;> simp at h ⊢ <;> exact h
 rw[this];exact .d _ _ (.val _)
def zs2{j:Decidable (b=true)}:LE (.val (.bool b)) (.pr (b=true) j):=λS Pm ρ w v hg=>by
 rw[hg.val_inv];have:=G.d (S:=S) (Pm:=Pm) (ρ:=ρ) (w:=w) _ _ (.pr (b=true) j)
 cases b <;> simpa using this
variable{xs:List α}{ys:List α}
def kM{enc:α->LQ}(h:xs=ys):LE (.sl enc xs) (.sl enc ys):=by subst h;exact .refl
def zs3{enc:α->LQ}(h:xs=ys):LE (.full enc xs) (.full enc ys):=by subst h;exact .refl
def zbY{enc:α->LQ}(h:xs=ys):LE (.full enc xs) (.sl enc ys):=λS Pm ρ w v hg=>by
 subst h;obtain⟨a,rfl,hd⟩:=hg.full_inv;exact .d _ _ hd
def zw{enc:α->LQ}:LE (.val (.slice none 0 0)) (.sl enc []):=λS Pm ρ w v hg=>by
 rw[hg.val_inv];exact .d _ _ (.nil enc none)
def LEs.gs{za bs:LQ}(h:LEs za bs){S Pm:LG}{ρ:ze}{w:World}:∀{vs:LZ},Gs S Pm ρ w za vs->Gs S Pm ρ w bs vs:=by
 induction h with
 |nil=>intro vs h;exact h
 |cons h t ih=>
  intro vs hg;obtain⟨v,vs',rfl,h1,h2⟩:=hg.cons_inv;exact .cons (h _ _ _ _ _ h1) (ih h2)
variable{za:LQ}{bs:LQ}
def jg(h:LEs za bs):LE (.agg za) (.agg bs):=λS Pm ρ w v hg=>by
 obtain⟨vs,rfl,hvs⟩:=hg.agg_inv;have:=h.gs hvs;exact .agg _ vs this.1 this.2
def zeQ(h:LEs za bs):LE (.tup za) (.tup bs):=λS Pm ρ w v hg=>by
 obtain⟨vs,rfl,hvs⟩:=hg.tup_inv;have:=h.gs hvs;exact .tup _ vs this.1 this.2
variable{a:SV}{c:SV}
def zW{b d:SV}(h1:LE a c)(h2:LE b d):LE (.tup [a,b]) (.tup [c,d]):=zeQ (.cons h1 (.cons h2 .nil))
def LE.trans{b:SV}(h:LE a b)(k:LE b c):LE a c:=λ_ _ _ _ _ g=>k _ _ _ _ _ (h _ _ _ _ _ g)
variable{f:FuncId}
def kK.le{args:LQ}{M:LT}{r':SV}(h:kK P f args M r M')(hle:LE r r'):kK P f args M r' M':=
 ⟨h.1,λKeep ρ w vs hk hm hρ hg=>(h.2 Keep ρ w vs hk hm hρ hg).mono λ_ _ ⟨v,ρ',e,h1,h2,h3⟩=>⟨v,ρ',e,h1,h2,hle _ _ _ _ _ h3⟩⟩
def kK.args{P:Program}{f:FuncId}{args args':LQ}{M M':LT}{r:SV}(h:kK P f args' M r M')(hle:LEs args args'):kK P f args M r M':=
 ⟨h.1,λKeep ρ w vs hk hm hρ hg=>h.2 Keep ρ w vs hk hm hρ (hle.gs hg)⟩
def LEs.refl:∀{za:LQ},LEs za za
 |[]=>.nil
 |_::_=>.cons .refl .refl
def LEs.C{us:LQ}(t:LEs us bs):LEs (a::us) (a::bs):=.cons .refl t
inductive zhx (k:LI):LQ->LQ->Prop
 |nil:zhx k [] []
 |cons {a b:SV} {za bs:LQ} (h:zbd k a b) (t:zhx k za bs):zhx k (a::za) (b::bs)
def zhx.ix{k:LI}(h:zhx k za bs):za.length=bs.length/\∀(j:Nat) (s r:SV),za[j]?=some s->bs[j]?=some r->zbd k s r:=by
 induction h with
 |nil=>exact⟨rfl,λj s r h=>by simp at h⟩
 |cons h t ih=>
  refine⟨by simp[ih.1],λj s r hs hr=>?_⟩
  cases j with
  |zero=>simp at hs hr;subst hs;subst hr;exact h
  |succ j=>exact ih.2 j s r (by simpa using hs) (by simpa using hr)
def zoN{k:LI}(h:zhx k za bs):zbd k (.agg za) (.agg bs):=.agg _ _ h.ix.1 h.ix.2
def zi3{k:LI}(h:zhx k za bs):zbd k (.tup za) (.tup bs):=.tup _ _ h.ix.1 h.ix.2
def zAQ{k:LI}(h:zhx k za bs):zbd k (.fn f za) (.fn f bs):=.fn _ _ _ h.ix.1 h.ix.2
def jH{k:LI}{q:IntKind}{n:Int}(h:m=n):zbd k (.val (.int q m)) (.val (.int q n)):=.le _ _ (zh h) rfl
def tdm{m n:Int}(h:0<n):(0<=m.tmod n/\m.tmod n<n/\m.tmod n=m%n/\m.tdiv n=m/n/\(m<0->m%n=0))∨
  (m<0/\m.tmod n<0/\ -n<m.tmod n/\m.tmod n+n=m%n/\m.tdiv n-1=m/n):=by
 have h1:=Yq m n;have h2:=JX m h
 have uniq:∀q r:Int,n*q+r=m->0<=r->r<n->r=m%n/\q=m/n:=λq r e hr hl=>by
  have:=(Qq (a:=m) (b:=n) (q:=q) (r:=r) h).2 ⟨oM,hr,hl⟩;exact⟨this.2.symm,this.1.symm⟩
 by_cases hm:0<=m
 ·have h3:=Int.tmod_nonneg n hm;obtain⟨h4,h5⟩:=uniq _ _ h1 h3 h2;exact .inl ⟨h3,h2,h4,h5,λh=>by omega⟩
 have h3: -n<m.tmod n:=by
  have:=JX (-m) h;rw[Int.neg_tmod]at this;omega
 have h6:m.tmod n<=0:=by
  have:=Int.tmod_nonneg n (show 0<= -m by omega);rw[Int.neg_tmod]at this;omega
 by_cases h0:m.tmod n=0
 ·obtain⟨h4,h5⟩:=uniq _ _ h1 oM h2;exact .inl ⟨oM,h2,h4,h5,λ_=>by omega⟩
 obtain⟨h4,h5⟩:=uniq (m.tdiv n-1) (m.tmod n+n) (by rw[YA];omega) oM oM;exact .inr ⟨oM,oM,h3,h4,h5⟩
def zrn{m n:Int}(h:0<n)(hm:R64 m):R64 (m.tdiv n)/\(n≠1-> -4611686018427387904<=m.tdiv n):=by
 have h1:=Yq m n;have h2:=JX m h
 have h3: -n<m.tmod n:=by
  rcases tdm (m:=m) h with h3|h3 <;> omega
 generalize m.tdiv n=q at*;generalize m.tmod n=r at*;refine⟨⟨?_,?_⟩,λhn=>?_⟩
 ·rcases Qa q 0 with hq|hq
  ·have:n*q<=1*q:=Qm oM oM
   by_cases e:n=1
   ·subst e;omega
   have:n*q<=2*q:=Qm oM oM;have h5:n*(q+1)=n*q+n:=by rw[Ji];omega
   have h6:n*(q+1)<=2*(q+1):=by
    rcases Qa (q+1) 1 with h|h
    ·exact Qm oM oM
    omega
   omega
  omega
 ·rcases Qa 0 q with hq|hq
  ·have h5:n*(q-1)=n*q-n:=by rw[YA];omega
   have h6:1*(q-1)<=n*(q-1):=Int.mul_le_mul_of_nonneg_right oM oM;omega
  omega
 rcases Qa q 0 with hq|hq
 ·have h5:n*(q+1)=n*q+n:=by rw[Ji];omega
  have h6:n*(q+1)<=2*(q+1):=Qm oM oM;omega
 omega
def iR{x y:Int}(h:x=y):some (i64 x)=some (i64 y):=h ▸ rfl
abbrev nS:SV:=.val (.slice none 0 0)
end Go.Gs
