/- An iterator: its contract out of its code. -/
import Derived.Test.YtplllpkdmehklaaGreatDoorMA
import Derived.Test.YtplllpkdmehklaaGreatDoorMBI
import Derived.Test.YtplllpkdmehklaaGreatDoorMAP
import Derived.Test.YtplllpkdmehklaaGreatDoorMBF
set_option maxRecDepth 100000
set_option maxHeartbeats 8000000
set_option linter.all false
namespace Go.Gs
def isY(L:List (Nat×SV))(o:Oper):Bool:=
 match o.op with
 |.call c=>(match c.callee with
  |.value (.tmp t)=>(match kM L t with
   | some (.val (.func (.yield _) _ _))=>true
   | _=>false)
  | _=>false)
 | _=>false
def zch:List (Nat×SV)->List (Nat×SV)
 | []=>[]
 | (t,s)::r=>match pfS s with
  | true=>(t,s)::zch r
  | false=>(t,.junk)::zch r
theorem zeR:∀{L:List (Nat×SV)} {t:Nat} {s:SV},kM (zch L) t=some s->s=.junk∨(kM L t=some s/\pfS s=true)
 | [],_,_,h=>by cases h
 | (k,s0)::r,t,s,h=>by
  unfold zch at h;rw [kw]
  split at h
  ·rename_i hp;rw [kw] at h
   by_cases e:k=t
   ·rw [if_pos e] at h ⊢;cases h;exact .inr ⟨rfl,hp⟩
   ·rw [if_neg e] at h ⊢;exact zeR h
  ·rw [kw] at h
   by_cases e:k=t
   ·rw [if_pos e] at h;cases h;exact .inl rfl
   ·rw [if_neg e] at h ⊢;exact zeR h
theorem ztX{L:List (Nat×SV)}{t:Nat}{s:SV}(h:kM (zch L) t=some s):∃s',kM L t=some s':=by
 induction L with
 | nil=>cases h
 | cons p r ih=>
  obtain ⟨k,s0⟩:=p;rw [kw]
  by_cases e:k=t
  ·rw [if_pos e];exact ⟨_,rfl⟩
  ·rw [if_neg e];refine ih ?_;unfold zch at h
   split at h <;> (rw [kw,if_neg e] at h;exact h)
def St.yput(σ:St)(d:Option Tmp)(s:SV):St:=⟨putL (zch σ.L) d s,σ.M,σ.nk,σ.nt,σ.n0⟩
def zqF(all:List Oper)(o:Oper)(σ:St)(run skip:St->Prop):Prop:=
 match o.guard with
 | none=>run σ
 |some (j,want)=>(match zcI all j with
  | none=>False
  |some t=>(match kM σ.L t with
   |some (.val (.bool true))=>(match want with
    | true=>run σ
    | false=>skip σ)
   |some (.val (.bool false))=>(match want with
    | false=>run σ
    | true=>skip σ)
   |some (.pr p _)=>(match want with
    | true=>Br (p->run (σ.put (some t) (.val (.bool true)))) (¬p->skip (σ.put (some t) (.val (.bool false))))
    | false=>Br (p->skip (σ.put (some t) (.val (.bool true)))) (¬p->run (σ.put (some t) (.val (.bool false)))))
   | some (.val (.tuple _))=>skip σ
   | _=>False))
theorem zoO{all:List Oper}{o:Oper}{σ:St}{run skip:St->Prop}(h:zqF all o σ run skip){E:Env}{ρ:zi}{a:Act}{w:World}(hr:Rel E σ ρ a w):
  ∃σ' b,qM all σ' o b/\Rel E σ' ρ a w/\(σ'.M=σ.M/\σ'.nt=σ.nt)/\((b=true/\run σ')∨(b=false/\skip σ')):=by
 unfold zqF at h
 split at h
 ·rename_i hg;exact ⟨σ,true,by simp [qM,hg],hr,⟨rfl,rfl⟩,.inl ⟨rfl,h⟩⟩
 ·rename_i j want hg
  split at h
  ·exact h.elim
  ·rename_i t ht
   have gv:∀{σ':St} {v:Value},kM σ'.L t=some (.val v)->qM all σ' o (zrs v want):=fun hl=>by
    unfold qM;rw [hg];exact ⟨t,_,ht,hl,rfl⟩
   have gi:∀{σ':St} {b:Bool},kM σ'.L t=some (.val (.bool b))->qM all σ' o (b==want):=fun hl=>gv hl
   have put_look:∀(s1:SV),kM (σ.put (some t) s1).L t=some s1:=fun s1=>by
    show kM ((t,s1)::σ.L) t=some s1;rw [kw];simp
   split at h
   ·rename_i hl
    split at h
    ·exact ⟨σ,_,gi hl,hr,⟨rfl,rfl⟩,.inl ⟨rfl,h⟩⟩
    ·exact ⟨σ,_,gi hl,hr,⟨rfl,rfl⟩,.inr ⟨rfl,h⟩⟩
   ·rename_i hl
    split at h
    ·exact ⟨σ,_,gi hl,hr,⟨rfl,rfl⟩,.inl ⟨rfl,h⟩⟩
    ·exact ⟨σ,_,gi hl,hr,⟨rfl,rfl⟩,.inr ⟨rfl,h⟩⟩
   ·rename_i p ip hl
    by_cases hp:p
    ·have hr':=hr.refine hl (zbZ hp)
     split at h
     ·exact ⟨_,_,gi (put_look _),hr',⟨rfl,rfl⟩,.inl ⟨rfl,h.yes hp⟩⟩
     ·exact ⟨_,_,gi (put_look _),hr',⟨rfl,rfl⟩,.inr ⟨rfl,h.yes hp⟩⟩
    ·have hr':=hr.refine hl (zaA hp)
     split at h
     ·exact ⟨_,_,gi (put_look _),hr',⟨rfl,rfl⟩,.inr ⟨rfl,h.no hp⟩⟩
     ·exact ⟨_,_,gi (put_look _),hr',⟨rfl,rfl⟩,.inl ⟨rfl,h.no hp⟩⟩
   ·rename_i hl;exact ⟨σ,_,gv hl,hr,⟨rfl,rfl⟩,.inr ⟨rfl,h⟩⟩
   ·exact h.elim
def yIs(L:List (Nat×SV))(c:Call)(l:Nat):Prop:=
 match c.callee with
 | .value (.tmp t)=>kM L t=some (.val (.func (.yield l) #[] #[]))
 | _=>False
def zwT(l:Nat){α:Type}(enc:α->List SV)(xs:List α)(o:Oper)(σ:St)(i:Nat)(b:Bool)(K:St->Nat->Bool->Prop):Prop:=
 match o.op with
 |.call c=>(match b with
  | true=>False
  | false=>evs σ.L c.args.toList fun svs=>yIs σ.L c l/\∃x,xs[i]? =some x/\ua.scalars (enc x)=true/\LEs svs (enc x)/\zjj σ.M/\
   zkr o.dst σ.nt (Br (K (σ.yput o.dst (.val (.bool true))) (i+1) false) (K (σ.yput o.dst (.val (.bool false))) i true)))
 | _=>False
def zdj(P:Program)(Γ:List (TypeId×TI))(l:Nat){α:Type}(enc:α->List SV)(xs:List α)(all r:List Oper):Nat->St->Nat->Bool->(St->Nat->Bool->Prop)->Prop:=
 List.rec (motive:=fun _=>Nat->St->Nat->Bool->(St->Nat->Bool->Prop)->Prop) (fun _ σ i b K=>K σ i b) (fun o _ ih j σ i b K=>match isY σ.L o with
  | false=>uL P Γ false all [o] j σ fun σ'=>ih (j+1) σ' i b K
  | true=>zqF all o σ (fun σ'=>zwT l enc xs o σ' i b fun σ' i b=>ih (j+1) σ' i b K) (fun σ'=>vX o σ' fun σ'=>ih (j+1) σ' i b K)) r
inductive YDr (A:Prop) (B:Nat->Prop):Prop
 | plain (h:A)
 | split (m:Nat) (h:B m)
def vcIt(P:Program)(Γ:List (TypeId×TI))(l:Nat){α:Type}(enc:α->List SV)(xs:List α)(c:Code):St->Nat->Bool->(Ex->St->Nat->Bool->Prop)->Prop:=
 Code.rec (motive:=fun _=>St->Nat->Bool->(Ex->St->Nat->Bool->Prop)->Prop)
  (fun σ i b Q=>Q .normal σ i b)
  (fun id ops draw σ i b Q=>match draw with
   |false=>(match yO ops.toList with
    | true=>zdj P Γ l enc xs ops.toList ops.toList 0 σ i b (Q .normal)
    | false=>False)
   |true=>YDr (jJ P Γ (.region id ops true) σ fun e σ=>(match e with
    | .normal=>Q .normal σ i b
    |_=>False)) fun m=>Ob (y9 (yO ops.toList) (y9 (zlc ops.toList m) (uU (ops.toList.take m)))=true)
     (uL P Γ true (ops.toList.take m) (ops.toList.take m) 0 σ fun σ=>zdj P Γ l enc xs ops.toList (ops.toList.drop m) m σ i b (Q .normal)))
  (fun _ _ ha hb σ i b Q=>ha σ i b fun e σ i b=>(match e with
   | .normal=>hb σ i b Q
   | .exit id=>Q (.exit id) σ i b
   | .ret=>Q .ret σ i b))
  (fun c _ _ hx hy σ i b Q=>ev σ.L c fun c=>(match c with
   | .val (.bool true)=>hx σ i b Q
   | .val (.bool false)=>hy σ i b Q
   | .pr p _=>Br (p->hx σ i b Q) (¬p->hy σ i b Q)
   | .anyb=>Br (hx σ i b Q) (hy σ i b Q)
   | _=>False))
  (fun id _ hc σ i b Q=>hc σ i b fun e σ i b=>(match e with
   | .normal=>Q .normal σ i b
   |.exit j=>(match Nat.beq j id with
    | true=>Q .normal σ i b
    | false=>Q (.exit j) σ i b)
   | .ret=>Q .ret σ i b))
  (fun _ hc σ i b Q=>∃(ι:Type) (S:ι->St) (T:ι->Nat) (I:ι->Prop) (μ:ι->Nat) (x0:ι),I x0/\Sub σ (S x0)/\i=T x0/\b=false/\
   ∀x,I x->hc (S x) (T x) false fun e σ' i' b'=>(match e with
    | .normal=>∃x',I x'/\Sub σ' (S x')/\i'=T x'/\b'=false/\μ x' < μ x
    | .exit id=>Q (.exit id) σ' i' b'
    | .ret=>Q .ret σ' i' b'))
  (fun _ _ _ _ _ _ _ _ _ _=>False)
  (fun id σ i b Q=>Q (.exit id) σ i b)
  (fun _ _ _ _ _ _=>False)
  (fun _ σ i b Q=>Q .normal σ i b)
  (fun _ _ _ _ _=>False)
  (fun σ i b Q=>Q .ret σ i b)
  (fun _ _ _ _ _=>False)
  c
section it
variable {P:Program} {Γ:List (TypeId×TI)} {α:Type} {enc:α->List SV} {xs:List α} {l:Nat} {J:Nat->(Nat->Prop)->(Nat->Prop)->World->Prop} {Jx:(Nat->Prop)->(Nat->Prop)->World->Prop}
def Jt(J:Nat->(Nat->Prop)->(Nat->Prop)->World->Prop)(Jx:(Nat->Prop)->(Nat->Prop)->World->Prop)(i:Nat)(b:Bool):(Nat->Prop)->(Nat->Prop)->World->Prop:=
 match b with
 | false=>J i
 | true=>Jx
structure RI (J:Nat->(Nat->Prop)->(Nat->Prop)->World->Prop) (Jx:(Nat->Prop)->(Nat->Prop)->World->Prop) (E:Env) (SA SB:Nat->Prop) (σ:St) (i:Nat) (b:Bool) (ρ:zi) (a:Act) (w:World):Prop where
 rel:Rel E σ ρ a w
 ds:E.ds=[]
 sa:∀b,SA b->E.Keep b
 sb:∀b,Own σ.M ρ b->SB b
 dj:∀b,SB b->¬SA b/\b < w.heap.size
 lt:∀b,SA b->b < w.heap.size
 j:Jt J Jx i b SA SB w
def zoP(J:Nat->(Nat->Prop)->(Nat->Prop)->World->Prop)(Jx:(Nat->Prop)->(Nat->Prop)->World->Prop)(Q:Ex->St->Nat->Bool->Prop):Exit->Act->World->Prop
 | .normal,a,w=>∃E SA SB σ i b ρ,Q .normal σ i b/\RI J Jx E SA SB σ i b ρ a w
 | .exit id,a,w=>∃E SA SB σ i b ρ,Q (.exit id) σ i b/\RI J Jx E SA SB σ i b ρ a w
 | .ret,a,w=>∃E SA SB σ i b ρ,Q .ret σ i b/\RI J Jx E SA SB σ i b ρ a w
 | _,_,_=>False
theorem RI.next {E:Env} {SA SB:Nat->Prop} {σ σ':St} {i:Nat} {b:Bool} {ρ ρ':zi} {a a':Act} {w w':World}
  (hS:∀i b SA SB SB' W W',Jt J Jx i b SA SB W->Mv SB SB' W W'->(∀b,SB' b->¬SA b/\b < W'.heap.size)->Jt J Jx i b SA SB' W')
  (h:RI J Jx E SA SB σ i b ρ a w) (h':Rel ⟨w,E.ρ0,E.Keep,Own σ.M ρ,E.ds⟩ σ' ρ' a' w'):RI J Jx ⟨w,E.ρ0,E.Keep,Own σ.M ρ,E.ds⟩ SA (fun b=>SB b∨Own σ'.M ρ' b) σ' i b ρ' a' w':=by
 have hs:=h'.stp
 have hdj:∀b,(SB b∨Own σ'.M ρ' b)->¬SA b/\b < w'.heap.size:=fun b hb=>hb.elim (fun hb=>⟨(h.dj b hb).1,Nat.lt_of_lt_of_le (h.dj b hb).2 hs.size⟩)
  fun ho=>⟨fun hk=>(h'.mem.old b ho).2 (h.sa b hk),(h'.mem.old b ho).1⟩
 refine ⟨h',h.ds,h.sa,fun _ hb=>.inr hb,hdj,fun b hb=>Nat.lt_of_lt_of_le (h.lt b hb) hs.size,hS i b SA SB _ w w' h.j ⟨⟨hs.os,hs.tape,hs.output,hs.size,fun b hb hn=>hs.block b hb fun ho=>hn (h.sb b ho),fun b hb=>?_,fun _ _ h=>h⟩,fun g v hg _=>h'.mem.glc hg⟩ hdj⟩;exact hb.elim .inl fun ho=>(hs.own b ho).imp (h.sb b) id
theorem RI.sub {E:Env} {SA SB:Nat->Prop} {σ σ':St} {i:Nat} {b:Bool} {ρ:zi} {a:Act} {w:World}
  (hS:∀i b SA SB SB' W W',Jt J Jx i b SA SB W->Mv SB SB' W W'->(∀b,SB' b->¬SA b/\b < W'.heap.size)->Jt J Jx i b SA SB' W')
  (h:RI J Jx E SA SB σ i b ρ a w) (hs:Sub σ σ'):∃E SB ρ,RI J Jx E SA SB σ' i b ρ a w:=by
 obtain ⟨ρ',hr⟩:=hs _ ρ a w h.rel.cut;exact ⟨_,_,ρ',h.next hS hr⟩
theorem ztY {o:Oper} {c:Call} {t:Nat} (ho:o.op=.call c) (hc:c.callee=.value (.tmp t)) {a:Act} {w:World} (hf:a.eval (.tmp t)=.func (.yield l) #[] #[]) {n:Next} {w':World} {args:List Value}
  (ha:c.args.toList.map a.eval=args) (h:(Instr.yield l (List.toArray args)).run P w=.ok n w') (ro:Option Nat):(o.semAt ro a.eval).run P w=.ok n w':=by
 rw [Oper.semAt_eq _ _ _ (by rw [ho];intro c h;cases h)];have hmap:c.args.map a.eval=List.toArray args:=by apply Array.ext';simp [ha]
 simp only [execOp,ho,resolve,hc,hf,hmap,Deferred.ofValue,invoke,Sem.run_bind,Sem.run_pure,Result.andThen_ok]
 simpa using h
end it
section it
variable {P:Program} {Γ:List (TypeId×TI)} {α:Type} {enc:α->List SV} {xs:List α} {l:Nat} {J:Nat->(Nat->Prop)->(Nat->Prop)->World->Prop} {Jx:(Nat->Prop)->(Nat->Prop)->World->Prop}
def zwU(J:Nat->(Nat->Prop)->(Nat->Prop)->World->Prop)(Jx:(Nat->Prop)->(Nat->Prop)->World->Prop):Prop:=
 ∀i b SA SB SB' W W',Jt J Jx i b SA SB W->Mv SB SB' W W'->(∀b,SB' b->¬SA b/\b < W'.heap.size)->Jt J Jx i b SA SB' W'
def zwV(P:Program)(l:Nat)(enc:α->List SV)(xs:List α)(J:Nat->(Nat->Prop)->(Nat->Prop)->World->Prop)(Jx:(Nat->Prop)->(Nat->Prop)->World->Prop):Prop:=
 ∀i x SA SB W args,xs[i]? =some x->J i SA SB W->(∀b,SA b->b < W.heap.size)->(∀b,SB b->¬SA b/\b < W.heap.size)->Ds (fun b=>SA b∨SB b) W (enc x) args->
  YieldAt Fence.wide 0 P l (List.toArray args) W fun e W'=>∃SA':Nat->Prop,Mv SA SA' W W'/\(∀b,SA' b->¬SB b/\b < W'.heap.size)/\
   ((e=.returned (.bool true)/\J (i+1) SA' SB W')∨(e=.returned (.bool false)/\Jx SA' SB W'))
theorem zwW{L:List (Nat×SV)}{o:Oper}(h:isY L o=true):∃c t l' a b,o.op=.call c/\c.callee=.value (.tmp t)/\kM L t=some (.val (.func (.yield l') a b)):=by
 unfold isY at h
 split at h
 ·rename_i c hc
  split at h
  ·rename_i t ht
   split at h
   ·rename_i l' a b hl;exact ⟨c,t,l',a,b,hc,ht,hl⟩
   ·cases h
  ·cases h
 ·cases h
theorem ztZ{S S' Pm:Nat->Prop}{ρ:zi}{w w':World}{svs:List SV}{vs:List Value}(hs:ua.scalars svs=true)(h:Gs S Pm ρ w svs vs):Ds S' w' svs vs:=
 ⟨h.1,fun j s v h1 h2=>vl (ux hs j s h1) (h.2 j s v h1 h2)⟩
theorem zle (hT:TOK P Γ) (hS:zwU J Jx) (hY:zwV P l enc xs J Jx)
  {all:List Oper} {Q:Ex->St->Nat->Bool->Prop}:∀{r:List Oper} {j:Nat} {E:Env} {SA SB:Nat->Prop} {σ:St} {i:Nat} {b:Bool} {ρ:zi} {a:Act} {w:World},yO r=true->RI J Jx E SA SB σ i b ρ a w->
   zdj P Γ l enc xs all r j σ i b (Q .normal)->wpListIn Fence.wide 0 P all.toArray (zoP J Jx Q) r a w
 | [],j,E,SA,SB,σ,i,b,ρ,a,w,_,hr,h=>⟨E,SA,SB,σ,i,b,ρ,h,hr⟩
 | o::r,j,E,SA,SB,σ,i,b,ρ,a,w,hd,hr,h=>by
  have hd':zoK o=true/\yO r=true:=by unfold yO at hd ⊢;rw [List.all_cons,Bool.and_eq_true] at hd;exact hd
  simp only [zdj] at h
  split at h
  ·-- an operation like any other
   obtain ⟨σ',run,svs,s,md,h1,hg,href,hdst,hrun⟩:=zfj hT hr.rel h;have h1:zdj P Γ l enc xs all r (j+1) (σ'.app o.dst s md) i b (Q .normal):=h1
   have hr':Rel E σ' ρ a w:=by
    rcases href with rfl | ⟨t,s0,s1,h2,h3,rfl⟩
    ·exact hr.rel
    ·exact hr.rel.refine h2 h3
   have hnt:σ'.nt=σ.nt:=by rcases href with rfl | ⟨t,s0,s1,h2,h3,rfl⟩ <;> rfl
   have hM:σ'.M=σ.M:=by rcases href with rfl | ⟨t,s0,s1,h2,h3,rfl⟩ <;> rfl
   have hri:RI J Jx E SA SB σ' i b ρ a w:=⟨hr',hr.ds,hr.sa,fun b hb=>hr.sb b (hM ▸ hb),hr.dj,hr.lt,hr.j⟩;have hcut:=hr'.cut;unfold wpListIn;rw [hr'.wanted hg]
   rcases hrun with ⟨rfl,hst⟩ | ⟨rfl,rfl,rfl⟩
   ·simp only [if_true];refine yN.wide.op (zeQ hd'.1) ((hst.does hcut).wp fun v w' ha=>?_);obtain ⟨ρ',hrel⟩:=hcut.app (fun t e=>hnt ▸ hdst t e) ha;exact zle hT hS hY hd'.2 (hri.next hS hrel) h1
   ·simp only [Bool.false_eq_true,if_false];obtain ⟨ρ',hrel⟩:=hcut.app (fun t e=>hnt ▸ hdst t e) (uy hcut.mem);exact ⟨fun _ _=>trivial,zle hT hS hY hd'.2 (hri.next hS hrel) h1⟩
  ·-- the call of yield
   rename_i hy;obtain ⟨c,t,l',x0,y0,ho,hc,hlk⟩:=zwW hy;obtain ⟨σ',run,hg,hr',⟨hM,hnt⟩,hrun⟩:=zoO h hr.rel;have hri:RI J Jx E SA SB σ' i b ρ a w:=⟨hr',hr.ds,hr.sa,fun b hb=>hr.sb b (hM ▸ hb),hr.dj,hr.lt,hr.j⟩;unfold wpListIn;rw [hr'.wanted hg]
   rcases hrun with ⟨rfl,hgo⟩ | ⟨rfl,hskip⟩
   ·simp only [if_true];unfold zwT at hgo;rw [ho] at hgo;dsimp only at hgo
    cases b with
    | true=>exact hgo.elim
    | false=>
     dsimp only at hgo;obtain ⟨svs,hgo,hev⟩:=zfh hgo;obtain ⟨hyl,x,hx,hsc,hle,hpM,hgo⟩:=hgo;have hyl:kM σ'.L t=some (.val (.func (.yield l) #[] #[])):=by unfold yIs at hyl;rw [hc] at hyl;exact hyl
     have hval:=(hr'.regs t _ hyl).2.val_inv;obtain ⟨hdst,hgo⟩:=qm hgo;have hgs:=hev (a:=a) (fun t s _ hl=>(hr'.regs t s hl).2)
     have hargs:Ds (fun b=>SA b∨SB b) w (enc x) (c.args.toList.map a.eval):=by
      exact ztZ hsc (hle.gs hgs)
     obtain ⟨fn,tmps,assign,body,hrun,hR⟩:=hY i x SA SB w _ hx hr.j hr.lt hr.dj hargs;refine ⟨fun _ _=>trivial,?_⟩;rw [ztY ho hc hval rfl hrun];refine ⟨yN.wide.need,hR.mono ?_⟩
     rintro e W' ⟨SA',hmv,hdis,hres⟩
     have fin:∀(v:Bool) (i':Nat) (b':Bool),Jt J Jx i' b' SA' SB W'->zdj P Γ l enc xs all r (j+1) (σ'.yput o.dst (.val (.bool v))) i' b' (Q .normal)->
       wpListIn Fence.wide 0 P all.toArray (zoP J Jx Q) r (a.put o.dst (.bool v)) W':=by
      intro v i' b' hj hvc
      have hno:∀b,b < w.heap.size->¬(E.Keep b∨Own σ'.M ρ b)->¬((E.Keep b∨SA' b)∨Own σ'.M ρ b)/\W'.heap[b]? =w.heap[b]? :=fun b hb hn=>
       ⟨fun hk=>hk.elim (fun hk=>hk.elim (fun hk=>hn (.inl hk)) fun hs=>(hmv.own b hs).elim (fun h=>hn (.inl (hr.sa b h))) fun hge=>by omega) fun ho=>hn (.inr ho),hmv.block b hb fun hs=>hn (.inl (hr.sa b hs))⟩
      have hcl:∀t s,kM (zch σ'.L) t=some s->t < σ'.nt/\G (fun b=>(E.Keep b∨SA' b)∨Own σ'.M ρ b) (Own σ'.M ρ) ρ W' s (a.tmps.getD t undef):=fun t s hlk=>by
       obtain ⟨s',hl'⟩:=ztX hlk;refine ⟨(hr'.regs t s' hl').1,?_⟩
       rcases zeR hlk with rfl | ⟨h1,h2⟩
       ·exact .d _ _ (.junk _)
       ·exact (hr'.regs t s h1).2.pf hmv.size hno h2
      have hmem:zJ (fun b=>E.Keep b∨SA' b) σ'.M ρ W':=
       (hr'.mem.few (K':=fun b=>E.Keep b∨SA b) hpM fun b hb=>hb.elim id (hr.sa b)).other hpM hmv fun b hb=>⟨fun ho=>(hdis b hb).1 (hri.sb b ho),(hdis b hb).2⟩
      have hrel:Rel ⟨W',E.ρ0,fun b=>E.Keep b∨SA' b,Own σ'.M ρ,E.ds⟩ (σ'.yput o.dst (.val (.bool v))) ρ (a.put o.dst (.bool v)) W':=by
       refine ⟨?_,?_,fun t s hlk=>?_,hmem,hr'.fresh,⟨rfl,rfl,.refl _,Nat.le_refl _,fun _ _ _=>rfl,fun _ h=>.inl h,hr'.stp.rho⟩,hmem.kp,hr'.low⟩
       ·have:=hr'.size
        cases hd0:o.dst <;> simpa [Act.put,St.yput] using this
       ·have:=hr'.defers
        cases hd0:o.dst <;> simpa [Act.put] using this
       ·cases hd0:o.dst with
        | none=>
         rw [hd0] at hlk;exact hcl t s hlk
        | some d=>
         rw [hd0] at hlk;have hlk:kM ((d,.val (.bool v))::zch σ'.L) t=some s:=hlk;rw [kw] at hlk;have hdlt:d < a.tmps.size:=by rw [hr'.size];exact hdst d hd0
         by_cases e:d=t
         ·rw [if_pos e] at hlk
          cases hlk
          refine ⟨e ▸ hdst d hd0,?_⟩;rw [zfi hdlt,if_pos e];exact .d _ _ (.val _)
         ·rw [if_neg e] at hlk;rw [zfi hdlt,if_neg e];exact hcl t s hlk
      refine zle hT hS hY hd'.2 ⟨hrel,hr.ds,fun b hb=>.inr hb,hri.sb,fun b hb=>⟨fun hs=>(hdis b hs).1 hb,Nat.lt_of_lt_of_le (hr.dj b hb).2 hmv.size⟩,fun b hb=>(hdis b hb).2,hj⟩ hvc
     rcases hres with ⟨rfl,hj⟩ | ⟨rfl,hj⟩
     ·exact fin true (i+1) false hj hgo.yes
     ·exact fin false i true hj hgo.no
   ·simp only [Bool.false_eq_true,if_false];unfold vX at hskip;obtain ⟨hdst,hskip⟩:=qm hskip;have hcut:=hr'.cut;obtain ⟨ρ',hrel⟩:=hcut.app hdst (uy hcut.mem);exact ⟨fun _ _=>trivial,zle hT hS hY hd'.2 (hri.next hS hrel) hskip⟩
theorem zaR(hT:TOK P Γ)(hm:P.follows .mixedOrders=true)(hS:zwU J Jx)(hY:zwV P l enc xs J Jx):
  ∀(c:Code) {E:Env} {SA SB:Nat->Prop} {σ:St} {i:Nat} {b:Bool} {Q:Ex->St->Nat->Bool->Prop} {ρ:zi} {a:Act} {w:World},
   RI J Jx E SA SB σ i b ρ a w->vcIt P Γ l enc xs c σ i b Q->c.wpIn Fence.wide 0 P (zoP J Jx Q) a w
 | .skip,E,SA,SB,σ,i,b,Q,ρ,a,w,hr,h=>wpIn_skip ⟨E,SA,SB,σ,i,b,ρ,h,hr⟩
 | .region id ops draw,E,SA,SB,σ,i,b,Q,ρ,a,w,hr,h=>by
  cases draw with
  | false=>
   have h:(match yO ops.toList with | true=>zdj P Γ l enc xs ops.toList ops.toList 0 σ i b (Q .normal) | false=>False):=h
   split at h
   ·rename_i hd;refine wpIn_region_list ?_;have:=zle hT hS hY hd hr h
    simpa using this
   ·exact h.elim
  | true=>
   have h:YDr (jJ P Γ (.region id ops true) σ (fun e σ=>match e with | .normal=>Q .normal σ i b | _=>False)) (fun m=>Ob (y9 (yO ops.toList) (y9 (zlc ops.toList m) (uU (ops.toList.take m)))=true)
     (uL P Γ true (ops.toList.take m) (ops.toList.take m) 0 σ fun σ=>zdj P Γ l enc xs ops.toList (ops.toList.drop m) m σ i b (Q .normal))):=h
   rcases h with h | ⟨m,h⟩
   ·refine wpIn_wide.2 (Code.wp_mono (fun e a' w' hq=>?_) (kH hT hm (.region id ops true) hr.rel.cut h))
    cases e with
    | normal=>obtain ⟨σ',ρ',hq,hr'⟩:=hq;exact ⟨_,SA,_,σ',i,b,ρ',hq,hr.next hS hr'⟩
    | exit id=>obtain ⟨σ',ρ',hq,hr'⟩:=hq;exact hq.elim
    | ret=>obtain ⟨σ',ρ',hq,hr'⟩:=hq;exact hq.elim
    | _=>exact hq.elim
   ·obtain ⟨hc,h⟩:=h;obtain ⟨hd,hc⟩:=z7 hc;obtain ⟨ht,hord⟩:=z7 hc;refine zoN yN.wide hm hT hd ht hr.rel.cut hord h fun σ' ρ' a' w' hk hr'=>?_
    have hd':yO (ops.toList.drop m)=true:=List.all_eq_true.2 fun o ho=>List.all_eq_true.1 hd o (List.mem_of_mem_drop ho)
    have:=zle hT hS hY hd' (hr.next hS hr') hk
    simpa using this
 | .seq x y,E,SA,SB,σ,i,b,Q,ρ,a,w,hr,h=>by
  refine wpIn_seq (wpIn_mono (zaR hT hm hS hY x hr h) (fun e a' w' hq=>?_))
  cases e with
  | normal=>obtain ⟨E',SA',SB',σ',i',b',ρ',h',hr'⟩:=hq;exact zaR hT hm hS hY y hr' h'
  | exit id=>exact hq
  | ret=>exact hq
  | _=>exact hq.elim
 | .cond c x y,E,SA,SB,σ,i,b,Q,ρ,a,w,hr,h=>by
  obtain ⟨s,h,hs⟩:=zdL h;have hg:=hs (a:=a) (fun t s _ hl=>(hr.rel.regs t s hl).2)
  split at h
  ·exact wpIn_cond_true hg.val_inv (zaR hT hm hS hY x hr h)
  ·exact wpIn_cond_false hg.val_inv (zaR hT hm hS hY y hr h)
  ·rename_i p ip
   by_cases hp:p
   ·exact wpIn_cond_true (by rw [hg.pr_inv];simp [hp]) (zaR hT hm hS hY x hr (h.yes hp))
   ·exact wpIn_cond_false (by rw [hg.pr_inv];simp [hp]) (zaR hT hm hS hY y hr (h.no hp))
  ·obtain ⟨b',hb⟩:=hg.anyb_inv
   cases b' with
   | true=>exact wpIn_cond_true hb (zaR hT hm hS hY x hr h.yes)
   | false=>exact wpIn_cond_false hb (zaR hT hm hS hY y hr h.no)
  ·exact h.elim
 | .block id c,E,SA,SB,σ,i,b,Q,ρ,a,w,hr,h=>by
  refine wpIn_block (wpIn_mono (zaR hT hm hS hY c hr h) (fun e a' w' hq=>?_))
  cases e with
  | normal=>exact hq
  | exit j=>
   obtain ⟨E',SA',SB',σ',i',b',ρ',h',hr'⟩:=hq;dsimp only at h';show (if j=id then zoP J Jx Q .normal a' w' else zoP J Jx Q (.exit j) a' w')
   split at h'
   ·rename_i hb;rw [if_pos (Nat.eq_of_beq_eq_true hb)];exact ⟨E',SA',SB',σ',i',b',ρ',h',hr'⟩
   ·rename_i hb;rw [if_neg (Nat.ne_of_beq_eq_false hb)];exact ⟨E',SA',SB',σ',i',b',ρ',h',hr'⟩
  | ret=>exact hq
  | _=>exact hq.elim
 | .loop c,E,SA,SB,σ,i,b,Q,ρ,a,w,hr,h=>by
  obtain ⟨ι,S,T,I,μ,x0,h0,hsub,rfl,rfl,hround⟩:=h;obtain ⟨E0,SB0,ρ0,hr0⟩:=hr.sub hS hsub;refine v8 (fun n a w=>∃x E SA SB ρ,I x/\μ x=n/\RI J Jx E SA SB (S x) (T x) false ρ a w) (μ x0) ⟨x0,E0,SA,SB0,ρ0,h0,rfl,hr0⟩ fun n a w hI=>?_
  obtain ⟨x,E1,SA1,SB1,ρ1,h1,rfl,hr1⟩:=hI;refine wpIn_mono (zaR hT hm hS hY c hr1 (hround x h1)) (fun e a' w' hq=>?_)
  cases e with
  | normal=>
   obtain ⟨E2,SA2,SB2,σ',i',b',ρ',⟨x',h2,hs2,rfl,rfl,hlt⟩,hr'⟩:=hq;obtain ⟨E3,SB3,ρ3,hr3⟩:=hr'.sub hS hs2;exact ⟨μ x',hlt,x',E3,SA2,SB3,ρ3,h2,rfl,hr3⟩
  | exit id=>exact hq
  | ret=>exact hq
  | _=>exact hq.elim
 | .exit id,E,SA,SB,σ,i,b,Q,ρ,a,w,hr,h=>wpIn_exit ⟨E,SA,SB,σ,i,b,ρ,h,hr⟩
 | .ret,E,SA,SB,σ,i,b,Q,ρ,a,w,hr,h=>wpIn_ret ⟨E,SA,SB,σ,i,b,ρ,h,hr⟩
 | .rangeFunc _ _ _ _,_,_,_,_,_,_,_,_,_,_,_,h=>by cases h
 | .scope _,_,_,_,_,_,_,_,_,_,_,_,h=>by cases h
 | .label _,E,SA,SB,σ,i,b,Q,ρ,a,w,hr,h=>wpIn_label ⟨E,SA,SB,σ,i,b,ρ,h,hr⟩
 | .goto _,_,_,_,_,_,_,_,_,_,_,_,h=>by cases h
 | .refuse _,_,_,_,_,_,_,_,_,_,_,_,h=>by cases h
def endI(n:Nat)(e:Ex)(_:St)(i:Nat)(b:Bool):Prop:=
 match e with
 | .exit _=>False
 | _=>b=true∨i=n
theorem zmM (hT:TOK P Γ) (hm:P.follows .mixedOrders=true) {f:FuncId} {fn:Func} {c:Code} {caps:List SV} (hf:P.funcs[f]? =some fn) (hb:fn.body=some c) (hn:(fn.name== "runtime.NumGoroutine")=false)
  (hle:Nat.ble (caps.length+1) fn.ntmps=true) (hres:fn.results=#[]) (h:∀l:Nat,vcIt P Γ l enc xs c ⟨jS 0 (.val (.func (.yield l) #[] #[])::caps),[],0,fn.ntmps,0⟩ 0 false (endI xs.length)):zk7 P f caps enc xs:=by
 refine ⟨⟨fn,hf,hn,by rw [hb];rfl⟩,fun SA w vs l J Jx hlt hgl hcaps hSJ hSX hY h0=>?_⟩;refine callsIn_of_wp_marks hf hb trivial ?_ rfl
 have hrel:=zah (Keep:=SA) (M:=[]) (ρ:=fun _=>none) (w:=w) (args:=.val (.func (.yield l) #[] #[])::caps) (vs:=.func (.yield l) #[] #[]::vs) (nt:=fn.ntmps) (qR hlt hgl) (fun _ _=>rfl)
  ⟨by simp [hcaps.1],fun j s v hs hv=>by
   cases j with
   | zero=>cases hs;cases hv;exact .d _ _ (.val _)
   | succ j=>exact .d _ _ ((hcaps.2 j s v (by simpa using hs) (by simpa using hv)).less fun b hb=>hb.resolve_right zT)⟩ (by simpa using Nat.le_of_ble_eq_true hle)
 have hri:RI J Jx ⟨w,fun _=>none,SA,Own [] (fun _=>none),[]⟩ SA (fun _=>False) _ 0 false _ _ w:=⟨hrel,rfl,fun _ h=>h,fun _ hb=>absurd hb zT,fun _ h=>h.elim,hlt,h0⟩
 have hS:zwU J Jx:=fun i b SA SB SB' W W' hj hmv hd=>by
  cases b with
  | false=>exact hSJ i SA SB SB' W W' hj hmv hd
  | true=>exact hSX SA SB SB' W W' hj hmv hd
 refine wpIn_mono (zaR hT hm hS hY c hri (h l)) (fun e a' w' hq=>?_)
 have fin:∀{E SA SB σ i b ρ},RI J Jx E SA SB σ i b ρ a' w'->(b=true∨i=xs.length)->LeavesInM Fence.wide 0 P fn a'.tmps (fun e W'=>(∃v,e=.returned v)/\∃SA' SB',J xs.length SA' SB' W'∨Jx SA' SB' W') a'.defers .returning w':=by
  intro E SA SB σ i b ρ hr hd;rw [hr.rel.defers,hr.ds];refine ⟨.tuple #[],by unfold results;rw [hres];simp,⟨_,rfl⟩,SA,SB,?_⟩;have hj:=hr.j
  cases b with
  | true=>exact .inr hj
  | false=>
   obtain rfl:=hd.resolve_left (by simp);exact .inl hj
 cases e with
 | normal=>obtain ⟨E,SA,SB,σ,i,b,ρ,hq,hr⟩:=hq;exact fin hr hq
 | ret=>obtain ⟨E,SA,SB,σ,i,b,ρ,hq,hr⟩:=hq;exact fin hr hq
 | exit id=>obtain ⟨E,SA,SB,σ,i,b,ρ,hq,hr⟩:=hq;exact hq.elim
 | _=>exact hq.elim
end it
open Go.Proofs
def ptA(p:Pt):List SV:=[.agg (ptE p)]
theorem zsc(F:FuncId)(cs:List SV)(n:Int):zd Tryz.prog 275 [i64 n,.fn F [.dptr cs,.loc 0 0]] [(0,.box 3 [i64 n])]
  (.dfn 306 [.dptr [i64 n],.dptr [.dfn F [.dptr cs,.dptr [i64 n]]]]) []:=by
 refine zhh 3 tok mix Tryz.func275 rfl rfl rfl ?_;exact .refl
theorem zzm{f:Int->Pt}{n k:Nat}(h:k < n):(zde f n)[k]? =some (f ((k:Int)+1)):=by
 unfold zde;rw [List.getElem?_map,List.getElem?_range h];rfl
theorem zdk(f:Int->Pt)(n:Nat):(zde f n).length=n:=by unfold zde;simp
theorem zoQ(F:FuncId)(cs:List SV)(n:Int)(f:Int->Pt)(hn:0<=n/\n<=64)(h:∀i:Nat,i < n.toNat->zd Tryz.prog F [i64 ((i:Int)+1),.dptr cs,.dptr [i64 n]] [] (.agg (ptE (f ((i:Int)+1)))) []):
  zk7 Tryz.prog 306 [.dptr [i64 n],.dptr [.dfn F [.dptr cs,.dptr [i64 n]]]] ptA (zde f n.toNat):=by
 refine zmM (caps:=[.dptr [i64 n],.dptr [.dfn F [.dptr cs,.dptr [i64 n]]]]) (enc:=ptA) (xs:=zde f n.toNat) tok mix Tryz.func306 rfl rfl rfl rfl (fun l=>?_);refine ⟨Nat,fun k=>⟨[(0,.val (.func (.yield l) #[] #[])),(1,.dptr [i64 n]),(2,.dptr [.dfn F [.dptr cs,.dptr [i64 n]]]),(4,i64 ((k:Int)+1))],[],0,16,0⟩,fun k=>k,fun k=>k<=n.toNat,fun k=>n.toNat - k,0,?_,?_,rfl,rfl,?_⟩
 ·exact Nat.zero_le _
 ·exact zf []
 rintro k hk
 refine Br.mk (fun g=>?_) (fun g=>?_)
 ·have g:(k:Int)+1<=n:=g;refine zb.t (h k oM) ?_;refine ⟨rfl,f ((k:Int)+1),zzm (show k < n.toNat by omega),rfl,.cons .refl .nil,(fun _ _ h=>by cases h),?_⟩;refine Br.mk ?_ ?_
  ·refine Ar.o ?_;refine ⟨k+1,oM,z9 [] ⟨rfl,rfl,rfl,congrArg (fun q=>some (i64 q)) oM,trivial⟩ trivial,rfl,rfl,by dsimp only;omega⟩
  ·exact .inl rfl
 ·have g:¬(k:Int)+1<=n:=g;exact .inr (by rw [zdk];show k=n.toNat;omega)
theorem zAD(caps:List SV)(xs:List Pt)(h:zk7 Tryz.prog 306 caps ptA xs)(hx:xs.length<=4096):zd Tryz.prog 274 [.dfn 306 caps] [] (.sl ptE xs) []:=by
 refine zdh 1 tok mix Tryz.func274 rfl rfl rfl ?_
 refine ⟨Pt,ptA,xs,1,[(3,.loc 0 0)],fun j=>[(0,.box 87 [.own 1]),(1,.arr 63 ptE 2 (xs.take j))],fun _=>2,h,fun _=>rfl,⟨rfl,rfl,rfl,rfl⟩,
  zf [(0,some 0),(1,none)],⟨Nat.zero_le _,rfl⟩,fun j=>?_,?_,?_⟩
 ·intro k m hm;simp only [List.mem_cons,List.not_mem_nil,or_false,Prod.mk.injEq] at hm
  rcases hm with ⟨_,rfl⟩ | ⟨_,rfl⟩
  ·rfl
  ·trivial
 ·intro j y hy;have hlt:(xs.take j).length<=4096:=by rw [List.length_take];omega
  refine ⟨Pt,ptE,[y],rfl,Ob.o0 ?_⟩;refine ⟨[y],rfl,Ob.o11 ?_⟩;exact zY [(0,some 0),(1,some 4)] ⟨rfl,congrArg (fun q=>some (Mem.arr 63 ptE 2 q)) (by rw [List.take_add_one,hy];rfl),trivial⟩
 ·refine qy ?_;exact List.take_length
theorem zt0(a b c:Pt)(i n:Int):zd Tryz.prog 276 [i64 i,.dptr (ptE a++ptE b++ptE c),.dptr [i64 n]] [] (.agg (ptE (uf a b c i n))) []:=by
 refine zc tok mix Tryz.func276 rfl rfl rfl ?_;refine zb.t (zwO a b c i n) ?_;exact .refl
theorem zwX{a b c:Pt}{tol:Int}(h:(jE a b c tol).2=0):zaK a b c tol=(zde (fun i=>uf a b c i (jE a b c tol).1) (jE a b c tol).1.toNat,0):=by
 unfold zaK;rw [jQ h]
theorem zt1{a b c:Pt}{tol:Int}(h:¬(jE a b c tol).2=0):zaK a b c tol=([],(jE a b c tol).2):=by
 unfold zaK;rw [if_pos h]
def zwY(c:List Pt×Int):SV:=.tup [.sl ptE c.1,i64 c.2]
theorem zqG{c:List Pt×Int}{a:List Pt}{b:Int}(h:c=(a,b)):LE (.tup [.sl ptE a,i64 b]) (zwY c):=by subst h;exact .refl
theorem zsd{c:List Pt×Int}{b:Int}(h:c=([],b)):LE (.tup [.val (.slice none 0 0),i64 b]) (zwY c):=by subst h;exact zU zC .refl
theorem zBK(a b c:Pt)(tol:Int)(ha:zn a)(hb:zn b)(hc:zn c):zd Tryz.prog 230 [.agg (ptE a++ptE b++ptE c),i64 tol] [] (zwY (zaK a b c tol)) []:=by
 refine zc tok mix Tryz.func230 rfl rfl rfl ?_;refine zkb.data ?_;refine zb.t (ztS a b c tol ha hb hc) ?_;refine Br.mk (fun k=>?_) (fun k=>?_)
 ·exact zsd (zt1 k)
 have k:(jE a b c tol).2=0:=Decidable.not_not.1 k;have ok:=(uO (show (jd _ tol _).2=0 from k)).1;have ok:1<=(jE a b c tol).1/\(jE a b c tol).1<=64:=ok;have e:=zwX k;generalize (jE a b c tol).1=n at*;refine zb.give [0] 0 [i64 n,.fn 276 [.dptr (ptE a++ptE b++ptE c),.loc 0 0]] [(0,.box 3 [i64 n])] [] _ (zsc 276 (ptE a++ptE b++ptE c) n) LEs.refl rfl rfl rfl ⟨⟨_,rfl,rfl,rfl⟩,trivial⟩ rfl trivial ?_;refine zb.t (zAD _ _ (zoQ 276 (ptE a++ptE b++ptE c) n (fun i=>uf a b c i n) oM (fun i _=>zt0 a b c ((i:Int)+1) n)) (by rw [zdk];omega)) ?_
 exact zqG e
theorem zt2(a b c d:Pt)(i n:Int):zd Tryz.prog 279 [i64 i,.dptr (ptE a++ptE b++ptE c++ptE d),.dptr [i64 n]] [] (.agg (ptE (ug a b c d i n))) []:=by
 refine zc tok mix Tryz.func279 rfl rfl rfl ?_;refine zb.t (zwP a b c d i n) ?_;exact .refl
theorem zwZ{a b c d:Pt}{tol:Int}(h:(jF a b c d tol).2=0):zaL a b c d tol=(zde (fun i=>ug a b c d i (jF a b c d tol).1) (jF a b c d tol).1.toNat,0):=by
 unfold zaL;rw [jQ h]
theorem zt3{a b c d:Pt}{tol:Int}(h:¬(jF a b c d tol).2=0):zaL a b c d tol=([],(jF a b c d tol).2):=by
 unfold zaL;rw [if_pos h]
theorem zBL(a b c d:Pt)(tol:Int)(ha:zn a)(hb:zn b)(hc:zn c)(hd:zn d):zd Tryz.prog 231 [.agg (ptE a++ptE b++ptE c++ptE d),i64 tol] [] (zwY (zaL a b c d tol)) []:=by
 refine zc tok mix Tryz.func231 rfl rfl rfl ?_;refine zkb.data ?_;refine zb.t (ztT a b c d tol ha hb hc hd) ?_;refine Br.mk (fun k=>?_) (fun k=>?_)
 ·exact zsd (zt3 k)
 have k:(jF a b c d tol).2=0:=Decidable.not_not.1 k;have ok:=(uO (show (jd _ tol _).2=0 from k)).1;have ok:1<=(jF a b c d tol).1/\(jF a b c d tol).1<=64:=ok;have e:=zwZ k;generalize (jF a b c d tol).1=n at*;refine zb.give [0] 0 [i64 n,.fn 279 [.dptr (ptE a++ptE b++ptE c++ptE d),.loc 0 0]] [(0,.box 3 [i64 n])] [] _ (zsc 279 (ptE a++ptE b++ptE c++ptE d) n) LEs.refl rfl rfl rfl ⟨⟨_,rfl,rfl,rfl⟩,trivial⟩ rfl trivial ?_
 refine zb.t (zAD _ _ (zoQ 279 (ptE a++ptE b++ptE c++ptE d) n (fun i=>ug a b c d i n) oM (fun i _=>zt2 a b c d ((i:Int)+1) n)) (by rw [zdk];omega)) ?_;exact zqG e
end Go.Gs
