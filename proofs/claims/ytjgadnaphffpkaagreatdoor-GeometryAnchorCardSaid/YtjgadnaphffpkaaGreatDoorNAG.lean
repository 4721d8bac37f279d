/- The table of types, looked at by the kernel; one state says more than another; what one value says of another. -/
import Derived.Test.YtjgadnaphffpkaaGreatDoorNA
import Derived.Test.YtjgadnaphffpkaaGreatDoorNAF
set_option maxRecDepth 100000
set_option maxHeartbeats 8000000
set_option linter.all false
namespace Go.Gs
def vEq:Value->Value->Bool
 | .int k m,.int k' n=>zq8 k k'&&decide (m=n)
 | .bool a,.bool b=>a==b
 | .slice none l c,.slice none l' c'=>Nat.beq l l'&&Nat.beq c c'
 | .pointer none,.pointer none=>true
 | .map none,.map none=>true
 | .nilFunc,.nilFunc=>true
 | .nilIface,.nilIface=>true
 | .string a,.string b=>a.data.toList.isEmpty&&b.data.toList.isEmpty
 | _,_=>false
theorem zBG{a b:Value}(h:vEq a b=true):a=b:=by
 unfold vEq at h
 split at h
 ·simp only[Xx,decide_eq_true_eq]at h;rw[zfN h.1,h.2]
 ·simp at h;rw[h]
 ·simp only[Xx]at h;rw[Xg h.1,Xg h.2]
 ·rfl
 ·rfl
 ·rfl
 ·rfl
 ·rename_i a b;simp only[Xx,List.isEmpty_iff]at h;obtain⟨⟨a⟩⟩:=a;obtain⟨⟨b⟩⟩:=b;simp at h;simp[h]
 ·cases h
def vsEq:List Value->List Value->Bool
 | [],[]=>true
 | a::r,b::r'=>vEq a b&&vsEq r r'
 | _,_=>false
theorem znl:∀{a b:List Value},vsEq a b=true->a=b
 | [],[],_=>rfl
 | [],_::_,h=>by cases h
 | _::_,[],h=>by cases h
 | a::r,b::r',h=>by simp only[vsEq,Xx]at h;rw[zBG h.1,znl h.2]
def fsEq:List (Nat×TypeId)->List (Nat×TypeId)->Bool
 | [],[]=>true
 | (a,b)::r,(a',b')::r'=>Nat.beq a a'&&(Nat.beq b b'&&fsEq r r')
 | _,_=>false
theorem zsL:∀{a b:List (Nat×TypeId)},fsEq a b=true->a=b
 | [],[],_=>rfl
 | [],_::_,h=>by cases h
 | _::_,[],h=>by cases h
 | (a,b)::r,(a',b')::r',h=>by
  simp only[fsEq,Xx]at h;rw[Xg h.1,Xg h.2.1,zsL h.2.2]
def zwq(P:Program)(t:TypeId)(k:TK):Bool:=
 match k,P.underlying t with
 | .int k,some (.int k')=>zq8 k' k
 | .bool,some .bool=>true
 | .str,some .string=>true
 | .ptr e,some (.pointer e')=>Nat.beq e' e
 | .slice e,some (.slice e')=>Nat.beq e' e
 | .arr n e,some (.array n' e')=>Nat.beq n' n&&Nat.beq e' e
 | .struct fs,some (.struct F)=>fsEq (F.toList.map λf=>(f.offset,f.type)) fs&&(F.toList.mapM λf=>(P.info? f.type).map λi=>(f.offset,i.size)).isSome
 | .map k e,some (.map k' e')=>Nat.beq k' k&&Nat.beq e' e
 | .other,some (.func _ _ _)=>true
 | .iface,some (.interface _)=>true
 | _,_=>false
variable{P:Program}
theorem zwr{t:TypeId}{k:TK}(h:zwq P t k=true):zfg P t k:=by
 unfold zwq at h
 split at h
 ·rename_i hu;exact(zfN h) ▸ hu
 ·assumption
 ·assumption
 ·rename_i hu;exact(Xg h) ▸ hu
 ·rename_i hu;exact(Xg h) ▸ hu
 ·rename_i hu;simp only[Xx]at h;have h1:=Xg h.1;have h2:=Xg h.2;subst h1;subst h2;exact hu
 ·rename_i hu;simp only[Xx]at h;exact⟨_,hu,zsL h.1,Option.isSome_iff_exists.1 h.2⟩
 ·rename_i hu;simp only[Xx]at h;have h1:=Xg h.1;have h2:=Xg h.2;subst h1;subst h2;exact hu
 ·rename_i hu;exact⟨_,hu,λw=>by simp[isAgg,run_underlying hu]⟩
 ·rename_i hu;exact⟨_,hu⟩
 ·cases h
def zws:Value->Bool
 | .agg _=>true
 | _=>false
def chkT(P:Program)(t:TypeId)(i:TI):Bool:=
 (match P.info? t with
 |some f=>Nat.beq f.size i.sz&&(Nat.beq f.bytes i.bytes&&(match f.zero with
  | some z=>vsEq z.cells.toList i.zero&&((i.kind.agg||z.oneCell')&&(!i.kind.agg||zws z))
  | none=>false))
 | none=>false)&&(Nat.beq i.zero.length i.sz&&(i.zero.all (·.oneCell')&&(zwq P t i.kind&&
 (!i.cmp||(!P.stoodInHeld t&&(!P.eqGuardType P.depth t&&(P.fieldsOf t).toList.all λf=>!(f.name== "_")))))))
theorem zzs{t:TypeId}{i:TI}(h:chkT P t i=true):zin P t i:=by
 unfold chkT at h;simp only[Xx]at h;obtain⟨h1,h2,h3,h4,h5⟩:=h;refine⟨?_,zwr h4,λhg=>?_,λhc=>?_⟩
 ·split at h1
  ·rename_i f hf;simp only[Xx]at h1;obtain⟨g1,g2,g3⟩:=h1
   split at g3
   ·rename_i z hz;simp only[Xx]at g3;exact⟨f,hf,Xg g1,Xg g2,z,hz,znl g3.1,λha=>zlD (by simpa[ha] using g3.2.1),Xg h2,λv hv=>XN.1 h3 v hv⟩
   ·cases g3
  ·cases h1
 ·split at h1
  ·rename_i f hf;simp only[Xx]at h1;obtain⟨g1,g2,g3⟩:=h1
   split at g3
   ·rename_i z hz;simp only[Xx,hg,Qq,QE]at g3;refine⟨f,hf,?_⟩
    cases z with
    | agg a=>rw[hz,← znl g3.1];simp[Value.cells]
    | _=>exact absurd g3.2.2 (by simp[zws])
   ·cases g3
  ·cases h1
 ·simp only[hc,Qq,QE,Xx,Jf]at h5;refine⟨h5.1,h5.2.1,λf hf=>?_⟩;have:=XN.1 h5.2.2 f hf
  simpa using this
def zBH(P:Program)(Γ:List (TypeId×TI)):Bool:=Γ.all λp=>chkT P p.1 p.2
theorem zBI{Γ:List (TypeId×TI)}(h:zBH P Γ=true):TOK P Γ:=by
 intro t i hi
 have hm:(t,i)∈Γ:=by
  clear h
  induction Γ with
  | nil=>cases hi
  | cons x r ih=>
   obtain⟨k,s⟩:=x;simp only[ti]at hi
   split at hi
   ·rename_i hb;have:=Xg hb;subst this;cases hi;exact .head _
   ·exact .tail _ (ih hi)
 exact zzs (XN.1 h _ hm)
def za4:List (Nat×Option Nat)->Nat->Option (Option Nat)
 | [],_=>none
 | (k,s)::r,t=>match Nat.beq k t with
  | true=>some s
  | false=>za4 r t
def ren(tb:List (Nat×Option Nat))(s:SV):Option SV:=
 match s with
 |.loc k off=>(match za4 tb k with
  | some (some j)=>some (.loc j off)
  | _=>none)
 |.own k=>(match za4 tb k with
  | some (some j)=>some (.own j)
  | some none=>some (.val (.slice none 0 0))
  | none=>none)
 |.fn f cs=>(match rens tb cs with
  | some cs'=>some (.fn f cs')
  | none=>none)
 |.agg cs=>(match rens tb cs with
  | some cs'=>some (.agg cs')
  | none=>none)
 |.ifc t s=>(match ren tb s with
  | some s'=>some (.ifc t s')
  | none=>none)
 |.tup cs=>(match rens tb cs with
  | some cs'=>some (.tup cs')
  | none=>none)
 |.win k sz lo n=>(match za4 tb k with
  | some (some j)=>some (.win j sz lo n)
  | _=>none)
 |.eloc k sz i off=>(match za4 tb k with
  | some (some j)=>some (.eloc j sz i off)
  | _=>none)
 | s=>some s
 where
 rens (tb:List (Nat×Option Nat)):List SV->Option (List SV)
  | []=>some []
  |c::cs=>(match ren tb c,rens tb cs with
   | some c',some cs'=>some (c'::cs')
   | _,_=>none)
def znm(tb:List (Nat×Option Nat))(L:List (Nat×SV)):List (Nat×SV)->Prop
 | []=>True
 |(t,s)::r=>(match ren tb s with
  | some s'=>qe L t=some s'
  | none=>False)/\znm tb L r
def znn(tb:List (Nat×Option Nat))(M:List (Nat×Mem))(k:Nat)(m:Mem):Prop:=
 match za4 tb k with
 |some (some j)=>(match m with
  |.box T cs=>(match ren.rens tb cs with
   | some cs'=>zX M j=some (.box T cs')
   | none=>False)
  | .garr T sz xs=>∃xs',zX M j=some (.garr T sz xs')/\xs'.length=xs.length/\∀(i:Nat) x,xs[i]? =some x->∃x',xs'[i]? =some x'/\ren.rens tb x=some x'
  | m=>zX M j=some m)
 |some none=>(match m with
  | .arr _ _ _ xs=>Nat.beq xs.length 0=true
  | _=>False)
 | none=>False
def zno(tb:List (Nat×Option Nat))(M:List (Nat×Mem)):List (Nat×Mem)->Prop
 | []=>True
 | (k,m)::r=>znn tb M k m/\zno tb M r
def zeQ:List (Nat×Option Nat)->Nat->Bool
 | [],_=>true
 | (k,_)::r,nk=>Nat.blt k nk&&(r.all (λx=>!(Nat.beq x.1 k))&&zeQ r nk)
def zeR(tb:List (Nat×Option Nat)):Nat->Bool
 | 0=>true
 |n+1=>(match za4 tb n with
  | some (some j)=>Nat.beq j n&&zeR tb n
  | _=>false)
def zwt:Option (Option Nat)->Option (Option Nat)->Bool
 | some (some a),some (some b)=>!(Nat.beq a b)
 | _,_=>true
def zat(tb:List (Nat×Option Nat)):List (Nat×Mem)->Bool
 | []=>true
 | (k,_)::r=>r.all (λx=>!(Nat.beq x.1 k)&&zwt (za4 tb x.1) (za4 tb k))&&zat tb r
def names(tb:List (Nat×Option Nat))(ρ:zk):zk:=λk=>match za4 tb k with
 | some (some j)=>ρ j
 | some none=>some (.slice none 0 0)
 | none=>none
variable{tb:List (Nat×Option Nat)}
theorem zzt{nk k:Nat}{x:Option Nat}(h:zeQ tb nk=true)(hk:za4 tb k=some x):k < nk:=by
 induction tb with
 | nil=>cases hk
 | cons y r ih=>
  obtain⟨k',j⟩:=y;simp only[zeQ,Xx]at h;simp only[za4]at hk
  split at hk
  ·rename_i hb;have:=Xg hb;subst this;exact Xw h.1
  ·exact ih h.2.2 hk
theorem ren_g{S Pm:Nat->Prop}{ρ:zk}{w:World}:∀(s:SV) {s':SV} {v:Value},ren tb s=some s'->G S Pm ρ w s' v->G S Pm (names tb ρ) w s v:=by
 intro s
 induction s using SV.rec (motive_2:=λcs=>∀{cs':List SV} {vs:List Value},ren.rens tb cs=some cs'->Gs S Pm ρ w cs' vs->Gs S Pm (names tb ρ) w cs vs) with
 | val v=>intro s' u h hg;simp only[ren]at h;cases h;exact .d _ _ (hg.val_inv ▸ .val _)
 | pr p i=>intro s' u h hg;simp only[ren]at h;cases h;rw[hg.pr_inv];exact .d _ _ (.pr p i)
 | agg cs ih=>
  intro s' u h hg;simp only[ren]at h
  split at h
  ·rename_i cs' hc;cases h
   obtain⟨vs,rfl,hvs⟩:=hg.agg_inv;have:=ih hc hvs;exact .agg _ vs this.1 this.2
  ·cases h
 | sl enc xs=>intro s' u h hg;simp only[ren]at h;cases h;exact .d _ _ hg.sl_inv
 | ptr cs ih=>
  intro s' u h hg;simp only[ren]at h;cases h
  obtain⟨b,o,c,rfl,hb,hP,hc,hd⟩:=hg.ptr_inv;exact .ptr cs b o c hb hP hc hd
 | loc k off=>
  intro s' u h hg;simp only[ren]at h
  split at h
  ·rename_i j hj;cases h
   obtain⟨b,hρ,rfl⟩:=hg.loc_inv;exact .loc _ _ b (by simp[names,hj,hρ])
  ·cases h
 | own k=>
  intro s' u h hg;simp only[ren]at h
  split at h
  ·rename_i j hj;cases h
   obtain⟨hρ,h1⟩:=hg.own_inv;exact .own _ _ (by simp[names,hj,hρ]) h1
  ·rename_i hj;cases h
   rw[hg.val_inv];exact .own _ _ (by simp[names,hj]) rfl
  ·cases h
 | win k sz lo n=>
  intro s' u h hg;simp only[ren]at h
  split at h
  ·rename_i j hj;cases h
   obtain⟨b,len,cap,cap',hρ,rfl,h1,h2⟩:=hg.win_inv;exact .win _ _ _ _ b len cap cap' (by simp[names,hj,hρ]) h1 h2
  ·cases h
 | eloc k sz i off=>
  intro s' u h hg;simp only[ren]at h
  split at h
  ·rename_i j hj;cases h
   obtain⟨b,len,cap,hρ,rfl⟩:=hg.eloc_inv;exact .eloc _ _ _ _ b len cap (by simp[names,hj,hρ])
  ·cases h
 | fn f cs ih=>
  intro s' u h hg;simp only[ren]at h
  split at h
  ·rename_i cs' hc;cases h
   obtain⟨vs,rfl,hvs⟩:=hg.fn_inv;have:=ih hc hvs;exact .fn f _ vs this.1 this.2
  ·cases h
 | tup cs ih=>
  intro s' u h hg;simp only[ren]at h
  split at h
  ·rename_i cs' hc;cases h
   obtain⟨vs,rfl,hvs⟩:=hg.tup_inv;have:=ih hc hvs;exact .tup _ vs this.1 this.2
  ·cases h
 | dptr cs ih=>intro s' u h hg;simp only[ren]at h;cases h;cases hg with | d _ _ h=>exact .d _ _ h
 | dfn f cs ih=>intro s' u h hg;simp only[ren]at h;cases h;cases hg with | d _ _ h=>exact .d _ _ h
 | bm f cs ih=>intro s' u h hg;simp only[ren]at h;cases h;cases hg with | d _ _ h=>exact .d _ _ h
 | op v=>intro s' u h hg;simp only[ren]at h;cases h;cases hg with | d _ _ h=>exact .d _ _ h
 | ifc t s ih=>
  intro s' u h hg;simp only[ren]at h
  split at h
  ·rename_i s1 hs;cases h
   obtain⟨v,rfl,hv⟩:=hg.ifc_inv;exact .ifc t s v (ih hs hv)
  ·cases h
 | junk=>intro s' u h hg;exact .d _ _ (.junk u)
 | nils=>intro s' u h hg;simp only[ren]at h;cases h;obtain⟨a,rfl⟩:=hg.nils_inv;exact .d _ _ (.nils a)
 | full enc xs=>intro s' u h hg;simp only[ren]at h;cases h;obtain⟨a,rfl,hd⟩:=hg.full_inv;exact .d _ _ (.full enc xs a hd)
 | anyb=>intro s' u h hg;simp only[ren]at h;cases h;obtain⟨b,rfl⟩:=hg.anyb_inv;exact .d _ _ (.anyb b)
 | nil=>rename_i h hg;simp only[ren.rens]at h;cases h;rw[hg.nil_inv];exact .nil
 | cons c cs ihc ihcs=>
  rename_i h hg;simp only[ren.rens]at h
  split at h
  ·rename_i c' cs'' hc hcs;cases h
   obtain⟨v,vs',rfl,h1,h2⟩:=hg.cons_inv;exact .cons (ihc hc h1) (ihcs hcs h2)
  ·cases h
theorem zlQ{tb:List (Nat×Option Nat)}{L:List (Nat×SV)}:∀{L':List (Nat×SV)},znm tb L L'->∀t s,qe L' t=some s->∃s',ren tb s=some s'/\qe L t=some s'
 | [],_,t,s,h=>by cases h
 | (t0,s0)::r,hL,t,s,h=>by
  obtain⟨h1,h2⟩:=hL;rw[kL]at h
  split at h
  ·rename_i e;subst e;cases h
   split at h1
   ·exact⟨_,‹_›,h1⟩
   ·exact h1.elim
  ·exact zlQ h2 t s h
theorem zjy{tb:List (Nat×Option Nat)}{M:List (Nat×Mem)}:∀{M':List (Nat×Mem)},zno tb M M'->∀k m,(k,m)∈M'->znn tb M k m
 | [],_,k,m,h=>by cases h
 | (k0,m0)::r,hM,k,m,h=>by
  cases h with
  | head=>exact hM.1
  | tail _ h=>exact zjy hM.2 k m h
theorem zlR{tb:List (Nat×Option Nat)}:∀{M:List (Nat×Mem)},zat tb M=true->M.Pairwise λa b=>a.1≠b.1
 | [],_=>.nil
 | (k,m)::r,h=>by
  simp only[zat,Xx]at h;refine X4.2 ⟨λx hx e=>?_,zlR h.2⟩;have:=XN.1 h.1 x hx;have e:k=x.1:=e;simp[← e,KU]at this
theorem zjz{tb:List (Nat×Option Nat)}:∀{M:List (Nat×Mem)},zat tb M=true->∀{k k' j:Nat} {m m':Mem},(k,m)∈M->(k',m')∈M->za4 tb k=some (some j)->za4 tb k'=some (some j)->k=k'
 | [],_,_,_,_,_,_,h,_,_,_=>by cases h
 | (q,n)::r,h,k,k',j,m,m',hk,hk',h1,h2=>by
  simp only[zat,Xx]at h;have hall:=XN.1 h.1
  have no:∀x∈r,za4 tb x.1=some (some j)->za4 tb q=some (some j)->False:=λx hx e1 e2=>by
   have:=hall x hx;rw[e1,e2]at this;simp[zwt,KU]at this
  cases hk with
  | head=>cases hk' with
   | head=>rfl
   | tail _ hk'=>exact(no _ hk' h2 h1).elim
  | tail _ hk=>cases hk' with
   | head=>exact(no _ hk h1 h2).elim
   | tail _ hk'=>exact zjz h.2 hk hk' h1 h2
theorem zo6{tb:List (Nat×Option Nat)}:∀{n:Nat},zeR tb n=true->∀k,k < n->za4 tb k=some (some k)
 | 0,_,k,hk=>oM
 | n+1,h,k,hk=>by
  simp only[zeR]at h
  split at h
  ·rename_i j hj;simp only[Xx]at h;have:=Xg h.1;subst this
   by_cases e:k=j
   ·subst e;exact hj
   ·exact zo6 h.2 k oM
  ·cases h
theorem zjA:∀(cs cs':List SV),ren.rens tb cs=some cs'->cs'.length=cs.length/\∀(i:Nat) (s:SV),cs[i]? =some s->∃s',cs'[i]? =some s'/\ren tb s=some s':=by
  intro cs
  induction cs with
  | nil=>intro cs' h;simp only[ren.rens]at h;cases h;exact⟨rfl,λi s h=>by simp at h⟩
  | cons c cs ih=>
   intro cs' h;simp only[ren.rens]at h
   split at h
   ·rename_i c' cs'' hc hcs;cases h
    obtain⟨e1,e2⟩:=ih cs'' hcs;refine⟨by simp[e1],λi s hi=>?_⟩
    cases i with
    | zero=>simp at hi;subst hi;exact⟨c',rfl,hc⟩
    | succ i=>simpa using e2 i s (by simpa using hi)
   ·cases h
variable{σ:St}{L':List (Nat×SV)}{M':List (Nat×Mem)}{nk':Nat}
theorem qA(tb:List (Nat×Option Nat))(h1:zeQ tb nk'=true) (h2:zeR tb σ.n0=true) (h3:zat tb M'=true)
  (hL:znm tb σ.L L') (hM:zno tb σ.M M'):Sub σ ⟨L',M',nk',σ.nt,σ.n0⟩:=by
 intro E ρ a w hr;refine⟨names tb ρ,?_⟩
 have hnm:∀k v,names tb ρ k=some v->(∃j,za4 tb k=some (some j)/\ρ j=some v)∨(za4 tb k=some none/\v=.slice none 0 0):=by
  intro k v h;unfold names at h
  split at h
  ·exact .inl ⟨_,‹_›,h⟩
  ·cases h;exact .inr ⟨‹_›,rfl⟩
  ·cases h
 have hlook:∀k j m,(k,m)∈M'->za4 tb k=some (some j)->∃m0,(j,m0)∈σ.M:=by
  intro k j m hk hj;have:=zjy hM k m hk;unfold znn at this;rw[hj]at this;simp only at this
  split at this
  ·split at this
   ·exact⟨_,zA this⟩
   ·exact this.elim
  ·obtain⟨xs',h,_⟩:=this;exact⟨_,zA h⟩
  ·exact⟨_,zA this⟩
 have hown:∀b,Own M' (names tb ρ) b->Own σ.M ρ b:=by
  rintro b ⟨k,m,v,hk,hv,hb⟩
  rcases hnm k v hv with⟨j,hj,hρ⟩ | ⟨_,rfl⟩
  ·obtain⟨m0,hm0⟩:=hlook k j m hk hj;exact⟨j,m0,v,hm0,hρ,hb⟩
  ·cases hb
 have hg:∀s s' v,ren tb s=some s'->G (λb=>E.Keep b∨Own σ.M ρ b) (Own σ.M ρ) ρ w s' v->G (λb=>E.Keep b∨Own M' (names tb ρ) b) (Own M' (names tb ρ)) (names tb ρ) w s v:=λs s' v hs h=>
  ren_g s hs (h.mono (Xh _) (λb _ hb=>⟨λh=>hb (h.imp id (hown b)),rfl⟩) (λb _ hb=>⟨λh=>hb (hown b h),rfl⟩) (λ_ _ h=>h))
 refine⟨hr.size,hr.defers,λt s hl=>?_,⟨λk m hk=>?_,zlR h3,λk m k' m' v v' b hk hk' hne hv hv' hb=>?_,λb hb=>hr.mem.old b (hown b hb),hr.mem.kp,hr.mem.glO hown⟩,λk hk=>?_,?_,hr.keep,hr.low⟩
 ·obtain⟨s',hs',hl'⟩:=zlQ hL t s hl;exact⟨(hr.regs t s' hl').1,hg s s' _ hs' (hr.regs t s' hl').2⟩
 ·have hsm:=zjy hM k m hk;unfold znn at hsm
  split at hsm
  ·rename_i j hj;have hkj:names tb ρ k=ρ j:=by simp[names,hj]
   split at hsm
   ·rename_i T cs
    split at hsm
    ·rename_i cs' hcs;obtain⟨b,vs,g1,g2,g3,g4,g5⟩:=hr.mem.rel j _ (zA hsm);obtain⟨e1,e2⟩:=zjA cs cs' hcs;refine⟨b,vs,hkj.trans g1,g2,by rw[g3,e1],g4,λi s v hi hv=>?_⟩;obtain⟨s',hs',hren⟩:=e2 i s hi;exact hg s s' v hren (g5 i s' v hs' hv)
    ·exact hsm.elim
   ·rename_i T sz xs;obtain⟨xs',hlk,e1,e2⟩:=hsm;obtain⟨v,cells,g1,g2,g3,g4,g5,g6⟩:=hr.mem.rel j _ (zA hlk);refine⟨v,cells,hkj.trans g1,by rw[← e1];exact g2,by rw[← e1];exact g3,g4,λx hx=>?_,λi j x s hx hs=>?_⟩
    ·obtain⟨i,hi⟩:=Yj.1 hx;obtain⟨x',hx',hr'⟩:=e2 i x hi;rw[← (zjA x x' hr').1];exact g5 x' (Xd hx')
    ·obtain⟨x',hx',hr'⟩:=e2 i x hx;obtain⟨s',hs',hren⟩:=(zjA x x' hr').2 j s hs;obtain⟨u,hu,hd⟩:=g6 i j x' s' hx' hs';exact⟨u,hu,hg s s' u hren hd⟩
   ·rename_i hnb hnb2;have hmr:=hr.mem.rel j _ (zA hsm)
    cases m with
    | box T cs=>exact(hnb T cs rfl).elim
    | garr T sz xs=>exact(hnb2 T sz xs rfl).elim
    | map es=>
     obtain⟨r,ents,clock,g1,g2,g3,g4⟩:=hmr;refine⟨r,ents,clock,hkj.trans g1,g2,g3,λi n s hi=>?_⟩;obtain⟨e,e1,e2,e3⟩:=g4 i n s hi;exact⟨e,e1,e2,e3.less λb hb=>hb.imp id (hown b)⟩
    | arr T enc sz xs=>
     obtain⟨v,cells,g1,g2,g3,g4,g5,g6⟩:=hmr;refine⟨v,cells,hkj.trans g1,g2,g3,g4,g5,λi j x s hx hs=>?_⟩;obtain⟨u,hu,hd⟩:=g6 i j x s hx hs;exact⟨u,hu,hd.less λb hb=>hb.imp id (hown b)⟩
  ·rename_i hj
   split at hsm
   ·rename_i T α enc sz xs;have h0:=Xg hsm;have hx:xs=[]:=Xn h0;subst hx;exact⟨.slice none 0 0,[],by simp[names,hj],World.ownsRow_nil w 0 T sz,by simp,λu hu=>(by cases hu),λx hx=>(by cases hx),λi j x s hx=>(by simp at hx)⟩
   ·exact hsm.elim
  ·exact hsm.elim
 ·rcases hnm k v hv with⟨j,hj,hρ⟩ | ⟨_,rfl⟩
  ·rcases hnm k' v' hv' with⟨j',hj',hρ'⟩ | ⟨_,rfl⟩
   ·obtain⟨m0,hm0⟩:=hlook k j m hk hj;obtain⟨m0',hm0'⟩:=hlook k' j' m' hk' hj';refine hr.mem.apart j m0 j' m0' v v' b hm0 hm0' (λe=>hne ?_) hρ hρ' hb;subst e;exact zjz h3 hk hk' hj hj'
   ·simp[qz]
  ·cases hb
 ·have:za4 tb k=none:=by
   cases hq:za4 tb k with
   | none=>rfl
   | some x=>have:=zzt h1 hq;have hk:nk'<=k:=hk;omega
  simp[names,this]
 ·have hs:=hr.stp;refine⟨hs.os,hs.tape,hs.output,hs.size,hs.block,λb hb=>hs.own b (hown b hb),λk v hk=>?_⟩;have:=zo6 h2 k (hr.low k v hk);simp[names,this,hs.rho k v hk]
theorem jL(tb:List (Nat×Option Nat))(hL:znm tb σ.L L')(hM:zno tb σ.M M')(h1:zeQ tb nk'=true:=by rfl)(h2:zeR tb σ.n0=true:=by rfl)(h3:zat tb M'=true:=by rfl):Sub σ ⟨L',M',nk',σ.nt,σ.n0⟩:=qA tb h1 h2 h3 hL hM
theorem zA8(tb:List (Nat×Option Nat))(hM:zno tb σ.M M')(hL:znm tb σ.L L':=by (repeat (refine⟨rfl,?_⟩));exact trivial)(h1:zeQ tb nk'=true:=by rfl)(h2:zeR tb σ.n0=true:=by rfl)(h3:zat tb M'=true:=by rfl):Sub σ ⟨L',M',nk',σ.nt,σ.n0⟩:=qA tb h1 h2 h3 hL hM
theorem zE(tb:List (Nat×Option Nat))(hM:zno tb σ.M M':=by (repeat (refine⟨rfl,?_⟩));exact trivial)(hL:znm tb σ.L L':=by (repeat (refine⟨rfl,?_⟩));exact trivial)(h1:zeQ tb nk'=true:=by rfl)(h2:zeR tb σ.n0=true:=by rfl)(h3:zat tb M'=true:=by rfl):Sub σ ⟨L',M',nk',σ.nt,σ.n0⟩:=qA tb h1 h2 h3 hL hM
def Tb:Nat->List Nat->List (Nat×Option Nat)
 | _,[]=>[]
 | n,x::r=>(n,some x)::Tb (n+1) r
theorem zL(l:List Nat)(hL:znm (Tb 0 l) σ.L L')(hM:zno (Tb 0 l) σ.M M')(h1:zeQ (Tb 0 l) nk'=true:=by rfl)(h2:zeR (Tb 0 l) σ.n0=true:=by rfl)(h3:zat (Tb 0 l) M'=true:=by rfl):Sub σ ⟨L',M',nk',σ.nt,σ.n0⟩:=qA _ h1 h2 h3 hL hM
theorem zC(l:List Nat)(hM:zno (Tb 0 l) σ.M M')(hL:znm (Tb 0 l) σ.L L':=by (repeat (refine⟨rfl,?_⟩));exact trivial)(h1:zeQ (Tb 0 l) nk'=true:=by rfl)(h2:zeR (Tb 0 l) σ.n0=true:=by rfl)(h3:zat (Tb 0 l) M'=true:=by rfl):Sub σ ⟨L',M',nk',σ.nt,σ.n0⟩:=qA _ h1 h2 h3 hL hM
theorem zf(l:List Nat)(hM:zno (Tb 0 l) σ.M M':=by (repeat (refine⟨rfl,?_⟩));exact trivial)(hL:znm (Tb 0 l) σ.L L':=by (repeat (refine⟨rfl,?_⟩));exact trivial)(h1:zeQ (Tb 0 l) nk'=true:=by rfl)(h2:zeR (Tb 0 l) σ.n0=true:=by rfl)(h3:zat (Tb 0 l) M'=true:=by rfl):Sub σ ⟨L',M',nk',σ.nt,σ.n0⟩:=qA _ h1 h2 h3 hL hM
theorem qC{σ:St}{t:Nat}{s s':SV}(hl:qe σ.L t=some s)(h:∀S Pm ρ w v,G S Pm ρ w s v->G S Pm ρ w s' v):Sub σ (σ.put (some t) s'):=λ_ ρ _ _ hr=>⟨ρ,hr.refine hl h⟩
theorem Sub.trans{σ σ' σ'':St}(h:Sub σ σ')(k:Sub σ' σ''):Sub σ σ'':=λE ρ a w hr=>by
 obtain⟨ρ',h1⟩:=h E ρ a w hr;exact k E ρ' a w h1
theorem zby {σ:St} (k k0:Nat) {T T0:TypeId} {α:Type} {enc:α->List SV} {sz sz0:Nat} {ys:List α} {xs xs':List (List SV)} (hk:zX σ.M k=some (.arr T enc sz ys))
  (h0:zX σ.M k0=some (.garr T0 sz0 xs)) (hl:xs'.length=xs.length) (hz:∀x∈xs',x.length=sz0)
  (hx:∀(i j:Nat) x' s',xs'[i]? =some x'->x'[j]? =some s'->∃x s,xs[i]? =some x/\x[j]? =some s/\(s'=s∨(s=.own k/\s'=.sl enc ys))):
  Sub σ ⟨σ.L,qM (qn σ.M k) k0 (.garr T0 sz0 xs'),σ.nk,σ.nt,σ.n0⟩:=by
 intro E ρ a w hr;refine⟨ρ,?_⟩;have hmem:=zA hk;have hsub:∀x∈qn σ.M k,x∈σ.M:=λx hx=>kD x hx
 have hpd:=qE (k:=k) hr.mem.keys;have hkeys:(qM (qn σ.M k) k0 (.garr T0 sz0 xs')).map (·.1)=(qn σ.M k).map (·.1):=zaI;have hown:∀b,Own (qM (qn σ.M k) k0 (.garr T0 sz0 xs')) ρ b->Own (qn σ.M k) ρ b:=λb hb=>zad hkeys.symm hb
 have hown2:∀b,Own (qn σ.M k) ρ b->Own σ.M ρ b:=λb ⟨k',m,v,h1,h2,h3⟩=>⟨k',m,v,hsub _ h1,h2,h3⟩
 have hg:∀s v,G (λb=>E.Keep b∨Own σ.M ρ b) (Own σ.M ρ) ρ w s v->
   G (λb=>E.Keep b∨Own (qM (qn σ.M k) k0 (.garr T0 sz0 xs')) ρ b) (Own (qM (qn σ.M k) k0 (.garr T0 sz0 xs')) ρ) ρ w s v:=λs v h=>
  h.mono (Xh _) (λb _ hb=>⟨λh=>hb (h.imp id λh=>hown2 b (hown b h)),rfl⟩) (λb _ hb=>⟨λh=>hb (hown2 b (hown b h)),rfl⟩) (λ_ _ h=>h)
 have hs:Stp (Own σ.M ρ) (Own (qM (qn σ.M k) k0 (.garr T0 sz0 xs')) ρ) ρ ρ w w:=
  ⟨rfl,rfl,.refl _,Xh _,λ_ _ _=>rfl,λb hb=>.inl (hown2 b (hown b hb)),λ_ _ h=>h⟩
 have hd:∀v,ρ k=some v->D (λb=>E.Keep b∨Own (qM (qn σ.M k) k0 (.garr T0 sz0 xs')) ρ b) w (.sl enc ys) v:=λv hv=>
  zjb hr.mem hmem (λb hb=>hb.imp id λh=>hown2 b (hown b h)) (λv' b hv' hb hSb=>by
   rcases hSb with hSb | hSb
   ·exact(hr.mem.old b ⟨k,_,v',hmem,hv',hb⟩).2 hSb
   ·obtain⟨k',m',v1,h4,h5,h6⟩:=hown b hSb
    exact hr.mem.apart k _ k' m' v' v1 b hmem (hsub _ h4) (Ne.symm (yL hr.mem.keys _ h4)) hv' h5 hb h6) hv
 refine⟨hr.size,hr.defers,λt s hl=>⟨(hr.regs t s hl).1,hg s _ (hr.regs t s hl).2⟩,⟨λk1 m1 h1=>?_,yS hkeys hpd,λk1 m1 k2 m2 v1 v2 b h1 h2=>?_,λb hb=>hr.mem.old b (hown2 b (hown b hb)),hr.mem.kp,hr.mem.glO λb hb=>hown2 b (hown b hb)⟩,
  hr.fresh,hr.stp.trans hs,hr.keep,hr.low⟩
 ·rcases jQ hpd _ h1 with⟨_,h2⟩ | h2
  ·exact(hr.mem.rel k1 m1 (hsub _ h2)).keep hs rfl (λ_ _ _ _=>rfl)
  ·cases h2
   obtain⟨v,cells,g1,g2,g3,g4,g5,g6⟩:=hr.mem.rel k0 _ (zA h0);refine⟨v,cells,g1,by rw[hl];exact g2,by rw[hl];exact g3,g4,hz,λi j x' s' hx' hs'=>?_⟩;obtain⟨x,s,e1,e2,e3⟩:=hx i j x' s' hx' hs';obtain⟨u,hu,hgu⟩:=g6 i j x s e1 e2;refine⟨u,hu,?_⟩
   rcases e3 with rfl | ⟨rfl,rfl⟩
   ·exact hg _ _ hgu
   ·exact .d _ _ (hd u hgu.own_inv.1)
 ·have back:∀k1 m1,(k1,m1)∈qM (qn σ.M k) k0 (.garr T0 sz0 xs')->∃m',(k1,m')∈σ.M:=λk1 m1 h=>by
   rcases jQ hpd _ h with⟨_,h2⟩ | h2
   ·exact⟨m1,hsub _ h2⟩
   ·cases h2;exact⟨_,zA h0⟩
  obtain⟨m1',h1'⟩:=back _ _ h1;obtain⟨m2',h2'⟩:=back _ _ h2;exact hr.mem.apart k1 m1' k2 m2' v1 v2 b h1' h2'
variable{α:Type}
theorem zf3(k0:Nat){T0:TypeId}(enc:α->List SV){sz0:Nat}(ys:List α)(h0:zX σ.M k0=some (.garr T0 sz0 (ys.map enc)))(hf:∀x∈ys,ym.flats (enc x)=true):
  Sub σ ⟨σ.L,qM σ.M k0 (.arr T0 enc sz0 ys),σ.nk,σ.nt,σ.n0⟩:=by
 intro E ρ a w hr;refine⟨ρ,?_⟩;have hkeys:(qM σ.M k0 (.arr T0 enc sz0 ys)).map (·.1)=σ.M.map (·.1):=zaI;have hown:∀b,Own (qM σ.M k0 (.arr T0 enc sz0 ys)) ρ b->Own σ.M ρ b:=λb hb=>zad hkeys.symm hb
 have hg:∀s v,G (λb=>E.Keep b∨Own σ.M ρ b) (Own σ.M ρ) ρ w s v->
   G (λb=>E.Keep b∨Own (qM σ.M k0 (.arr T0 enc sz0 ys)) ρ b) (Own (qM σ.M k0 (.arr T0 enc sz0 ys)) ρ) ρ w s v:=λs v h=>
  h.mono (Xh _) (λb _ hb=>⟨λh=>hb (h.imp id (hown b)),rfl⟩) (λb _ hb=>⟨λh=>hb (hown b h),rfl⟩) (λ_ _ h=>h)
 have hs:Stp (Own σ.M ρ) (Own (qM σ.M k0 (.arr T0 enc sz0 ys)) ρ) ρ ρ w w:=
  ⟨rfl,rfl,.refl _,Xh _,λ_ _ _=>rfl,λb hb=>.inl (hown b hb),λ_ _ h=>h⟩
 have back:∀k1 m1,(k1,m1)∈qM σ.M k0 (.arr T0 enc sz0 ys)->∃m',(k1,m')∈σ.M:=λk1 m1 h=>by
  rcases jQ hr.mem.keys _ h with⟨_,h2⟩ | h2
  ·exact⟨m1,h2⟩
  ·cases h2;exact⟨_,zA h0⟩
 refine⟨hr.size,hr.defers,λt s hl=>⟨(hr.regs t s hl).1,hg s _ (hr.regs t s hl).2⟩,⟨λk1 m1 h1=>?_,yS hkeys hr.mem.keys,λk1 m1 k2 m2 v1 v2 b h1 h2=>?_,λb hb=>hr.mem.old b (hown b hb),hr.mem.kp,hr.mem.glO hown⟩,
  hr.fresh,hr.stp.trans hs,hr.keep,hr.low⟩
 ·rcases jQ hr.mem.keys _ h1 with⟨_,h2⟩ | h2
  ·exact(hr.mem.rel k1 m1 h2).keep hs rfl (λ_ _ _ _=>rfl)
  ·cases h2
   obtain⟨v,cells,g1,g2,g3,g4,g5,g6⟩:=hr.mem.rel k0 _ (zA h0);rw[Xz]at g2 g3;refine⟨v,cells,g1,g2,g3,g4,λx hx=>g5 _ (XO.2 ⟨x,hx,rfl⟩),λi j x s hx hs'=>?_⟩;obtain⟨u,hu,hgu⟩:=g6 i j (enc x) s (by rw[XC,hx];rfl) hs';exact⟨u,hu,uH (yT (hf x (Xd hx)) j s hs') (hg _ _ hgu)⟩
 ·obtain⟨m1',h1'⟩:=back _ _ h1;obtain⟨m2',h2'⟩:=back _ _ h2;exact hr.mem.apart k1 m1' k2 m2' v1 v2 b h1' h2'
abbrev i64(n:Int):SV:=.val (.int .i64 n)
abbrev u8(n:Int):SV:=.val (.int .u8 n)
abbrev bl(b:Bool):SV:=.val (.bool b)
abbrev pr(p:Prop)[i:Decidable p]:SV:=.pr p i
abbrev R64(n:Int):Prop:= -9223372036854775808<=n/\n<=9223372036854775807
theorem LE.refl{s:SV}:LE s s:=λ_ _ _ _ _ h=>h
variable{r:SV}
theorem ue{s:SV}(h:s=r):LE s r:=h ▸ .refl
variable{m:Int}
theorem zj{k:IntKind}{n:Int}(h:m=n):LE (.val (.int k m)) (.val (.int k n)):=by subst h;exact .refl
theorem zF{p q:Prop}{i:Decidable p}{j:Decidable q}(h:p↔q):LE (.pr p i) (.pr q j):=λS Pm ρ w v hg=>by
 rw[hg.pr_inv]
 have:@decide p i=@decide q j:=by
  by_cases hp:p
  ·simp[hp,h.1 hp]
  ·have hq:¬q:=λhq=>hp (h.2 hq)
   simp[hp,hq]
 rw[this];exact .d _ _ (.pr q j)
theorem zR{q:Prop}{j:Decidable q}(h:q):LE (.val (.bool true)) (.pr q j):=λS Pm ρ w v hg=>by
 rw[hg.val_inv];have:=G.d (S:=S) (Pm:=Pm) (ρ:=ρ) (w:=w) _ _ (.pr q j)
 simpa[h] using this
theorem zd{q:Prop}{j:Decidable q}(h:¬q):LE (.val (.bool false)) (.pr q j):=λS Pm ρ w v hg=>by
 rw[hg.val_inv];have:=G.d (S:=S) (Pm:=Pm) (ρ:=ρ) (w:=w) _ _ (.pr q j)
 simpa[h] using this
theorem zsM{v:Value}(h:ifB v=true):LE (.val v) (.op v):=λS Pm ρ w u hg=>by
 rw[hg.val_inv];exact .d _ _ (.op v h)
variable{p:Prop}{i:Decidable p}
theorem zBJ(h:p):LE (.pr p i) (.val (.bool true)):=λS Pm ρ w v hg=>by
 rw[hg.pr_inv];simp only[h,decide_true];exact .d _ _ (.val _)
variable{b:Bool}
theorem zsN(h:p↔b=true):LE (.pr p i) (.val (.bool b)):=λS Pm ρ w v hg=>by
 rw[hg.pr_inv];have:@decide p i=b:=by cases b <;> simp at h ⊢ <;> exact h
 rw[this];exact .d _ _ (.val _)
theorem zsO{j:Decidable (b=true)}:LE (.val (.bool b)) (.pr (b=true) j):=λS Pm ρ w v hg=>by
 rw[hg.val_inv];have:=G.d (S:=S) (Pm:=Pm) (ρ:=ρ) (w:=w) _ _ (.pr (b=true) j)
 cases b <;> simpa using this
variable{xs:List α}{ys:List α}
theorem z9{enc:α->List SV}(h:xs=ys):LE (.sl enc xs) (.sl enc ys):=by subst h;exact .refl
theorem zsP{enc:α->List SV}(h:xs=ys):LE (.full enc xs) (.full enc ys):=by subst h;exact .refl
theorem zcy{enc:α->List SV}(h:xs=ys):LE (.full enc xs) (.sl enc ys):=λS Pm ρ w v hg=>by
 subst h;obtain⟨a,rfl,hd⟩:=hg.full_inv;exact .d _ _ hd
theorem zD{enc:α->List SV}:LE (.val (.slice none 0 0)) (.sl enc []):=λS Pm ρ w v hg=>by
 rw[hg.val_inv];exact .d _ _ (.nil enc none)
theorem LEs.gs{za bs:List SV}(h:LEs za bs){S Pm:Nat->Prop}{ρ:zk}{w:World}:∀{vs:List Value},Gs S Pm ρ w za vs->Gs S Pm ρ w bs vs:=by
 induction h with
 | nil=>intro vs h;exact h
 | cons h t ih=>
  intro vs hg;obtain⟨v,vs',rfl,h1,h2⟩:=hg.cons_inv;exact .cons (h _ _ _ _ _ h1) (ih h2)
variable{za:List SV}{bs:List SV}
theorem qF(h:LEs za bs):LE (.agg za) (.agg bs):=λS Pm ρ w v hg=>by
 obtain⟨vs,rfl,hvs⟩:=hg.agg_inv;have:=h.gs hvs;exact .agg _ vs this.1 this.2
theorem vt(h:LEs za bs):LE (.tup za) (.tup bs):=λS Pm ρ w v hg=>by
 obtain⟨vs,rfl,hvs⟩:=hg.tup_inv;have:=h.gs hvs;exact .tup _ vs this.1 this.2
theorem zI{a b c d:SV}(h1:LE a c)(h2:LE b d):LE (.tup [a,b]) (.tup [c,d]):=vt (.cons h1 (.cons h2 .nil))
theorem LE.trans{a b c:SV}(h:LE a b)(k:LE b c):LE a c:=λ_ _ _ _ _ g=>k _ _ _ _ _ (h _ _ _ _ _ g)
variable{f:FuncId}
theorem qI.le{args:List SV}{M:List (Nat×Mem)}{r':SV}(h:qI P f args M r M')(hle:LE r r'):qI P f args M r' M':=
 ⟨h.1,λKeep ρ w vs hk hm hρ hg=>(h.2 Keep ρ w vs hk hm hρ hg).mono λ_ _ ⟨v,ρ',e,h1,h2,h3⟩=>⟨v,ρ',e,h1,h2,hle _ _ _ _ _ h3⟩⟩
theorem qI.args{P:Program}{f:FuncId}{args args':List SV}{M M':List (Nat×Mem)}{r:SV}(h:qI P f args' M r M')(hle:LEs args args'):qI P f args M r M':=
 ⟨h.1,λKeep ρ w vs hk hm hρ hg=>h.2 Keep ρ w vs hk hm hρ (hle.gs hg)⟩
theorem LEs.refl:∀{za:List SV},LEs za za
 | []=>.nil
 | _::_=>.cons .refl .refl
inductive zeS (k:Option Nat):List SV->List SV->Prop
 | nil:zeS k [] []
 | cons {a b:SV} {za bs:List SV} (h:zaX k a b) (t:zeS k za bs):zeS k (a::za) (b::bs)
theorem zeS.ix{k:Option Nat}(h:zeS k za bs):za.length=bs.length/\∀(j:Nat) (s r:SV),za[j]? =some s->bs[j]? =some r->zaX k s r:=by
 induction h with
 | nil=>exact⟨rfl,λj s r h=>by simp at h⟩
 | cons h t ih=>
  refine⟨by simp[ih.1],λj s r hs hr=>?_⟩
  cases j with
  | zero=>simp at hs hr;subst hs;subst hr;exact h
  | succ j=>exact ih.2 j s r (by simpa using hs) (by simpa using hr)
theorem zwu{k:Option Nat}(h:zeS k za bs):zaX k (.agg za) (.agg bs):=.agg _ _ h.ix.1 h.ix.2
theorem zjB{k:Option Nat}(h:zeS k za bs):zaX k (.tup za) (.tup bs):=.tup _ _ h.ix.1 h.ix.2
theorem zzu{k:Option Nat}(h:zeS k za bs):zaX k (.fn f za) (.fn f bs):=.fn _ _ _ h.ix.1 h.ix.2
theorem za5{k:Option Nat}{q:IntKind}{n:Int}(h:m=n):zaX k (.val (.int q m)) (.val (.int q n)):=.le _ _ (zj h) rfl
theorem tdm{m n:Int}(h:0 < n):(0<=m.tmod n/\m.tmod n < n/\m.tmod n=m % n/\m.tdiv n=m / n/\(m < 0->m % n=0))∨
  (m < 0/\m.tmod n < 0/\ -n < m.tmod n/\m.tmod n+n=m % n/\m.tdiv n - 1=m / n):=by
 have h1:=Yg m n;have h2:=JI m h
 have uniq:∀q r:Int,n*q+r=m->0<=r->r < n->r=m % n/\q=m / n:=λq r e hr hl=>by
  have:=(Qa (a:=m) (b:=n) (q:=q) (r:=r) h).2 ⟨oM,hr,hl⟩;exact⟨this.2.symm,this.1.symm⟩
 by_cases hm:0<=m
 ·have h3:=Int.tmod_nonneg n hm;obtain⟨h4,h5⟩:=uniq _ _ h1 h3 h2;exact .inl ⟨h3,h2,h4,h5,λh=>by omega⟩
 ·have h3: -n < m.tmod n:=by
   have:=JI (-m) h;rw[Int.neg_tmod]at this;omega
  have h6:m.tmod n<=0:=by
   have:=Int.tmod_nonneg n (show 0<= -m by omega);rw[Int.neg_tmod]at this;omega
  by_cases h0:m.tmod n=0
  ·obtain⟨h4,h5⟩:=uniq _ _ h1 oM h2;exact .inl ⟨oM,h2,h4,h5,λ_=>by omega⟩
  ·obtain⟨h4,h5⟩:=uniq (m.tdiv n - 1) (m.tmod n+n) (by rw[Int.mul_sub];omega) oM oM;exact .inr ⟨oM,oM,h3,h4,h5⟩
theorem zjC{m n:Int}(h:0 < n)(hm:R64 m):R64 (m.tdiv n)/\(n≠1-> -4611686018427387904<=m.tdiv n):=by
 have h1:=Yg m n;have h2:=JI m h
 have h3: -n < m.tmod n:=by
  rcases tdm (m:=m) h with h3 | h3 <;> omega
 generalize m.tdiv n=q at*;generalize m.tmod n=r at*;refine⟨⟨?_,?_⟩,λhn=>?_⟩
 ·rcases Jg q 0 with hq | hq
  ·have:n*q<=1*q:=K8 oM oM
   by_cases e:n=1
   ·subst e;omega
   ·have:n*q<=2*q:=K8 oM oM;have h5:n*(q+1)=n*q+n:=by rw[Q9];omega
    have h6:n*(q+1)<=2*(q+1):=by
     rcases Jg (q+1) 1 with h | h
     ·exact K8 oM oM
     ·omega
    omega
  ·omega
 ·rcases Jg 0 q with hq | hq
  ·have h5:n*(q - 1)=n*q - n:=by rw[Int.mul_sub];omega
   have h6:1*(q - 1)<=n*(q - 1):=Qw oM oM;omega
  ·omega
 ·rcases Jg q 0 with hq | hq
  ·have h5:n*(q+1)=n*q+n:=by rw[Q9];omega
   have h6:n*(q+1)<=2*(q+1):=K8 oM oM;omega
  ·omega
end Go.Gs
