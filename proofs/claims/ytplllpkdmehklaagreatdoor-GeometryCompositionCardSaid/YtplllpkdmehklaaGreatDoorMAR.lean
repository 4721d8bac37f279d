/- A function that is handed blocks, and leaves blocks, za many za it will. -/
import Derived.Test.YtplllpkdmehklaaGreatDoorMA
import Derived.Test.YtplllpkdmehklaaGreatDoorMAO
import Derived.Test.YtplllpkdmehklaaGreatDoorMAP
import Derived.RowKit3
import Derived.Below
import GoSem.Claim
import Derived.Test.YtplllpkdmehklaaGreatDoorMAQ
set_option maxRecDepth 100000
set_option maxHeartbeats 8000000
set_option linter.all false
namespace Go.Gs
def endG(Γ:List (TypeId×TI))(rs:List ResultVar)(r:SV)(M':List (Nat×Mem))(e:Ex)(σ:St):Prop:=
 match e with
 | .exit _=>False
 | _=>∃σ',Sub σ σ'/\σ'.M=M'/\zbo σ' Γ rs fun s=>LE s r
theorem zaE {P:Program} {Γ:List (TypeId×TI)} (hT:TOK P Γ) (hm:P.follows .mixedOrders=true) {f:FuncId} {fn:Func} {c:Code} {args:List SV} {M M':List (Nat×Mem)} {r:SV}
  (hf:P.funcs[f]? =some fn) (hb:fn.body=some c) (hn:(fn.name== "runtime.NumGoroutine")=false) (hle:Nat.ble args.length fn.ntmps=true)
  (h:jJ P Γ c ⟨jS 0 args,M,M.length,fn.ntmps,M.length⟩ (endG Γ fn.results.toList r M')):zd P f args M r M':=by
 refine zai hT hm hf hb hn hle h (Q':=fun e σ=>(∀id,e≠.exit id)/\σ.M=M'/\zbo σ Γ fn.results.toList fun s=>LE s r) (fun e σ hq=>?_) (fun e σ hq he=>?_) (fun id σ hq=>hq.1 id rfl)
 ·cases e with
  | exit id=>exact hq.elim
  | normal=>obtain ⟨σ',h1,h2,h3⟩:=hq;exact ⟨σ',h1,fun _=>by simp,h2,h3⟩
  | ret=>obtain ⟨σ',h1,h2,h3⟩:=hq;exact ⟨σ',h1,fun _=>by simp,h2,h3⟩
 ·obtain ⟨_,hM,hq⟩:=hq;obtain ⟨s,hle,h1⟩:=yb hT hq;refine ⟨s,h1,fun {E ρ a w v} hr hW hρ0 hg=>⟨ρ,?_,?_,?_⟩⟩
  ·have hs:=hr.stp;rw [hM] at hs;exact ⟨hs.os,hs.tape,hs.output,hs.size,fun b hb hn=>hs.block b hb fun h=>hn ((hW b).1 h),fun b hb=>(hs.own b hb).imp (hW b).1 id,hs.rho⟩
  ·have:=hr.mem
   rwa [hM] at this
  ·rw [hM] at hg;exact hle _ _ _ _ _ hg
theorem zrz {σ:St} (k0:Nat) {m m':Mem} (h0:zN σ.M k0=some m)
  (hm:∀(S Pm:Nat->Prop) (ρ:zi) (w:World),jC S Pm ρ w k0 m->jC S Pm ρ w k0 m'):
  Sub σ ⟨σ.L,kU σ.M k0 m',σ.nk,σ.nt,σ.n0⟩:=by
 intro E ρ a w hr;refine ⟨ρ,?_⟩;have hkeys:(kU σ.M k0 m').map (·.1)=σ.M.map (·.1):=vj;have hown:∀b,Own (kU σ.M k0 m') ρ b->Own σ.M ρ b:=fun b hb=>uV hkeys.symm hb
 have hown':∀b,Own σ.M ρ b->Own (kU σ.M k0 m') ρ b:=fun b hb=>uV hkeys hb
 have eo:Own (kU σ.M k0 m') ρ=Own σ.M ρ:=funext fun b=>propext ⟨hown b,hown' b⟩
 refine ⟨hr.size,hr.defers,fun t s hl=>?_,⟨fun k1 m1 h1=>?_,jT hkeys hr.mem.keys,fun k1 m1 k2 m2 v1 v2 b h1 h2=>?_,fun b hb=>hr.mem.old b (hown b hb),hr.mem.kp,hr.mem.glO hown⟩,
  hr.fresh,?_,hr.keep,hr.low⟩
 ·show t < σ.nt/\G (fun b=>E.Keep b∨Own (kU σ.M k0 m') ρ b) (Own (kU σ.M k0 m') ρ) ρ w s (a.tmps.getD t undef);rw [eo];exact hr.regs t s hl
 ·show jC (fun b=>E.Keep b∨Own (kU σ.M k0 m') ρ b) (Own (kU σ.M k0 m') ρ) ρ w k1 m1;rw [eo]
  rcases qY hr.mem.keys _ h1 with ⟨_,h2⟩ | h2
  ·exact hr.mem.rel k1 m1 h2
  ·cases h2
   exact hm _ _ _ _ (hr.mem.rel k0 m (zr h0))
 ·have back:∀k1 m1,(k1,m1)∈kU σ.M k0 m'->∃m',(k1,m')∈σ.M:=fun k1 m1 h=>by
   rcases qY hr.mem.keys _ h with ⟨_,h2⟩ | h2
   ·exact ⟨m1,h2⟩
   ·cases h2;exact ⟨_,zr h0⟩
  obtain ⟨m1',h1'⟩:=back _ _ h1;obtain ⟨m2',h2'⟩:=back _ _ h2;exact hr.mem.apart k1 m1' k2 m2' v1 v2 b h1' h2'
 ·show Stp E.W0 (Own (kU σ.M k0 m') ρ) E.ρ0 ρ E.w0 w;rw [eo];exact hr.stp
theorem LEs.ixs{za bs:List SV}(h:LEs za bs):za.length=bs.length/\∀(j:Nat) (r:SV),bs[j]? =some r->∃s,za[j]? =some s/\LE s r:=by
 induction h with
 | nil=>exact ⟨rfl,fun j r h=>by simp at h⟩
 | cons h t ih=>
  refine ⟨by simp [ih.1],fun j r hr=>?_⟩
  cases j with
  | zero=>simp at hr;subst hr;exact ⟨_,rfl,h⟩
  | succ j=>simpa using ih.2 j r (by simpa using hr)
inductive Rows:List (List SV)->List (List SV)->Prop
 | nil:Rows [] []
 | cons {x y:List SV} {xs ys:List (List SV)} (h:LEs x y) (t:Rows xs ys):Rows (x::xs) (y::ys)
theorem Rows.refl:∀{xs:List (List SV)},Rows xs xs
 | []=>.nil
 | _::_=>.cons .refl .refl
theorem Rows.app{xs ys us vs:List (List SV)}(h:Rows xs ys)(k:Rows us vs):Rows (xs++us) (ys++vs):=by
 induction h with
 | nil=>exact k
 | cons h t ih=>exact .cons h ih
theorem Rows.ix{xs ys:List (List SV)}(h:Rows xs ys):xs.length=ys.length/\∀(i:Nat) y,ys[i]? =some y->∃x,xs[i]? =some x/\LEs x y:=by
 induction h with
 | nil=>exact ⟨rfl,fun i y h=>by simp at h⟩
 | cons h t ih=>
  refine ⟨by simp [ih.1],fun i y hy=>?_⟩
  cases i with
  | zero=>simp at hy;subst hy;exact ⟨_,rfl,h⟩
  | succ i=>simpa using ih.2 i y (by simpa using hy)
theorem zdO{σ:St}(k0:Nat){T:TypeId}{sz:Nat}{xs ys:List (List SV)}(h0:zN σ.M k0=some (.garr T sz xs))(h:Rows xs ys):Sub σ ⟨σ.L,kU σ.M k0 (.garr T sz ys),σ.nk,σ.nt,σ.n0⟩:=by
 refine zrz k0 h0 fun S Pm ρ w ⟨v,cells,g1,g2,g3,g4,g5,g6⟩=>⟨v,cells,g1,by rw [← h.ix.1];exact g2,by rw [← h.ix.1];exact g3,g4,fun y hy=>?_,fun i j y s hy hs=>?_⟩
 ·obtain ⟨i,hi⟩:=List.mem_iff_getElem?.1 hy;obtain ⟨x,hx,hle⟩:=h.ix.2 i y hi;rw [← hle.ixs.1];exact g5 x (List.mem_of_getElem? hx)
 ·obtain ⟨x,hx,hle⟩:=h.ix.2 i y hy;obtain ⟨s',hs',hl⟩:=hle.ixs.2 j s hs;obtain ⟨u,hu,hg⟩:=g6 i j x s' hx hs';exact ⟨u,hu,hl _ _ _ _ _ hg⟩
theorem law_walk' {P:Program} {f:FuncId} {args:List SV} {vs:List Value} {w:World} (h:zd P f args [] (bl true) [])
  (hg:∀S Pm:Nat->Prop,(∀b,¬S b)->(∀b,¬Pm b)->Gs S Pm (fun _=>none) w args vs) (hgl:∀g v,GL g v->w.cell? ⟨g,0,none⟩=some v:=by intro _ _ h;cases h):
  Calls P f vs.toArray w fun e w'=>e=.returned (.bool true)/\RowKit.Grown w w'/\RowKit.Below w.heap.size w w':=by
 refine (h.2 (fun _=>False) (fun _=>none) w vs (fun _ h=>h.elim) (qR (fun _ h=>h.elim) hgl) (fun _ _=>rfl) (hg _ _ (fun b hb=>hb.elim id zT) (fun b=>zT))).mono ?_
 rintro e w' ⟨v,ρ',rfl,hs,_,hv⟩
 refine ⟨by rw [hv.val_inv],⟨⟨hs.os,hs.output.1,fun i hi=>?_⟩,hs.output.2,hs.size⟩,⟨hs.os,hs.tape,hs.output.1,hs.size,fun i hi=>hs.block i hi zT⟩⟩;rw [hs.block i hi zT]
 cases w.heap[i]? with
 | none=>rfl
 | some o=>cases o <;> simp
def zvt(P:Program)(Γ:List (TypeId×TI)):Nat->Code->(St->Prop)->St->(Ex->St->Prop)->Prop
 | 0,_,J,σ,_=>J σ
 |n+1,.seq x y,J,σ,Q=>jJ P Γ x σ fun e σ=>(match e with
  | .normal=>zvt P Γ n y J σ Q
  | .exit id=>Q (.exit id) σ
  | .ret=>Q .ret σ)
 | _+1,_,_,_,_=>False
def zvu:Nat->Code->Code
 | 0,c=>c
 | n+1,.seq _ y=>zvu n y
 | _+1,c=>c
def zcC(P:Program)(c:Code)(σ:St)(Q:Ex->St->Prop):Prop:=∀(E:Env) (ρ:zi) (a:Act) (w:World),Rel E σ ρ a w->c.wp P (uz E Q) a w
theorem zcC.vc{P:Program}{Γ:List (TypeId×TI)}(hT:TOK P Γ)(hm:P.follows .mixedOrders=true){c:Code}{σ:St}{Q:Ex->St->Prop}(h:jJ P Γ c σ Q):zcC P c σ Q:=
 fun _ _ _ _ hr=>kH hT hm c hr h
theorem zkL{P:Program}{Γ:List (TypeId×TI)}(hT:TOK P Γ)(hm:P.follows .mixedOrders=true){J:St->Prop}{Q:Ex->St->Prop}:∀(n:Nat) (c:Code) {σ:St},
  zvt P Γ n c J σ Q->(∀σ,J σ->zcC P (zvu n c) σ Q)->zcC P c σ Q
 | 0,_,_,h,hJ=>hJ _ h
 | n+1,.seq x y,σ,h,hJ=>fun E ρ a w hr=>by
  refine wp_seq (Code.wp_mono (fun e a' w' hq=>?_) (kH hT hm x hr h))
  cases e with
  | normal=>obtain ⟨σ',ρ',h',hr'⟩:=hq;exact zkL hT hm n y h' hJ E ρ' a' w' hr'
  | exit id=>exact hq
  | ret=>exact hq
  | _=>exact hq.elim
 | _+1,.skip,_,h,_=>h.elim
 | _+1,.region ..,_,h,_=>h.elim
 | _+1,.cond ..,_,h,_=>h.elim
 | _+1,.block ..,_,h,_=>h.elim
 | _+1,.loop ..,_,h,_=>h.elim
 | _+1,.rangeFunc ..,_,h,_=>h.elim
 | _+1,.exit ..,_,h,_=>h.elim
 | _+1,.scope ..,_,h,_=>h.elim
 | _+1,.label ..,_,h,_=>h.elim
 | _+1,.goto ..,_,h,_=>h.elim
 | _+1,.ret,_,h,_=>h.elim
 | _+1,.refuse ..,_,h,_=>h.elim
theorem zcC.cut {P:Program} {Γ:List (TypeId×TI)} (hT:TOK P Γ) (hm:P.follows .mixedOrders=true) {c:Code} {σ:St} {Q:Ex->St->Prop} (n:Nat) {ι:Type} (S:ι->St) (I:ι->Prop)
  (h:zvt P Γ n c (fun σ=>∃i,I i/\Sub σ (S i)) σ Q) (h2:∀i,I i->zcC P (zvu n c) (S i) Q):zcC P c σ Q:=
 zkL hT hm n c h fun _ ⟨i,hi,hs⟩ E ρ a w hr=>by
  obtain ⟨ρ',hr'⟩:=hs E ρ a w hr;exact h2 i hi E ρ' a w hr'
theorem zb5 {P:Program} {Γ:List (TypeId×TI)} (hT:TOK P Γ) {f:FuncId} {fn:Func} {c:Code} {args:List SV} {r:SV}
  (hf:P.funcs[f]? =some fn) (hb:fn.body=some c) (hn:(fn.name== "runtime.NumGoroutine")=false) (hle:Nat.ble args.length fn.ntmps=true)
  (h:zcC P c ⟨jS 0 args,[],0,fn.ntmps,0⟩ (endV Γ fn.results.toList r)):zd P f args [] r []:=by
 refine ⟨⟨fn,hf,hn,by rw [hb];rfl⟩,fun Keep ρ w vs _ hmem hρ hg=>calls_of_wp hf hb ?_⟩;have hrel:=zah (nt:=fn.ntmps) hmem hρ hg (Nat.le_of_ble_eq_true hle);refine Code.wp_mono (fun e a' w' hq=>?_) (h _ _ _ _ hrel)
 have fin:∀σ ρ1,zbo σ Γ fn.results.toList (fun s=>LE (zkt (zN σ.M) s) r)->Rel ⟨w,ρ,Keep,Own [] ρ,[]⟩ σ ρ1 a' w'->a'.defers=[]/\∃v,(results fn a'.tmps).run P w'=.ok v w'/\∃v' ρ',Ending.returned v=.returned v'/\Stp (Own [] ρ) (Own [] ρ') ρ ρ' w w'/\
   zJ Keep [] ρ' w'/\G (fun b=>Keep b∨Own [] ρ' b) (Own [] ρ') ρ' w' r v':=by
  intro σ ρ1 hq hr;obtain ⟨s,hle,h1⟩:=yb hT hq;obtain ⟨v,g1,hg⟩:=h1 hr;have hs:=hr.stp;refine ⟨hr.defers,v,g1,v,ρ1,rfl,⟨hs.os,hs.tape,hs.output,hs.size,hs.block,fun b hb=>absurd hb zT,hs.rho⟩,qR hr.mem.kp fun _ _ h=>hr.mem.glc h,?_⟩;exact hle _ _ _ _ _ (zmc (fun k m h=>zr h) hr.mem (fun b hb=>.inl (hb.resolve_right zT)) hg (fun b hb hk=>(hr.mem.old b hb).2 (hk.resolve_right zT)) (fun _=>zT))
 cases e with
 | normal=>obtain ⟨σ,ρ1,hq,hr⟩:=hq;exact fin σ ρ1 hq hr
 | ret=>obtain ⟨σ,ρ1,hq,hr⟩:=hq;exact fin σ ρ1 hq hr
 | exit id=>obtain ⟨σ,ρ1,hq,hr⟩:=hq;exact hq.elim
 | _=>exact hq.elim
abbrev Dig:=Fin 4294967296
def val:List Dig->Nat
 | []=>0
 | d::r=>d.val+4294967296*val r
def zk(n:Nat):List Dig:=
 if h:n=0 then [] else ⟨n % 4294967296,Nat.mod_lt _ dC⟩::zk (n / 4294967296)
termination_by n
decreasing_by exact Nat.div_lt_self (Nat.pos_of_ne_zero h) dC
def dig(xs:List Dig)(i:Nat):Nat:=match xs[i]? with
 | some d=>d.val
 | none=>0
theorem zcZ(i:Nat):0 < 4294967296 ^ i:=Nat.pow_pos dC
theorem yB(xs:List Dig)(i:Nat):dig xs i < 4294967296:=by
 unfold dig;split
 ·exact Fin.isLt _
 ·decide
theorem zS{xs:List Dig}{i:Nat}{d:Dig}(h:xs[i]? =some d):dig xs i=d.val:=by simp [dig,h]
theorem zae{xs:List Dig}{i:Nat}(h:xs.length<=i):dig xs i=0:=by simp [dig,h]
theorem zem(d:Dig)(r:List Dig):dig (d::r) 0=d.val:=rfl
theorem vC(d:Dig)(r:List Dig)(i:Nat):dig (d::r) (i+1)=dig r i:=by simp [dig]
theorem zvx(xs:List Dig)(k i:Nat):dig (xs.take k) i=if i < k then dig xs i else 0:=by
 by_cases h:i < k <;> simp [dig,List.getElem?_take,h]
theorem jA(xs:List Dig)(i j:Nat)(d:Dig):dig (xs.set i d) j=if i=j/\i < xs.length then d.val else dig xs j:=by
 simp only [dig,List.getElem?_set]
 by_cases h:i=j
 ·subst h
  by_cases h2:i < xs.length
  ·simp [h2]
  ·simp [h2];
 ·simp [h]
theorem zqa(xs ys:List Dig)(i:Nat):dig (xs++ys) i=if i < xs.length then dig xs i else dig ys (i - xs.length):=by
 by_cases h:i < xs.length <;> simp [dig,List.getElem?_append,h]
theorem yz(n i:Nat):dig (List.replicate n (0:Dig)) i=0:=by
 simp only [dig,List.getElem?_replicate];by_cases h:i < n <;> simp [h]
theorem zmg:val []=0:=rfl
theorem uX(d:Dig)(r:List Dig):val (d::r)=d.val+4294967296*val r:=rfl
theorem vm:∀xs ys:List Dig,val (xs++ys)=val xs+4294967296 ^ xs.length*val ys
 | [],ys=>by simp [val]
 | x::xs,ys=>by
  simp only [List.cons_append,val,vm xs ys,List.length_cons,Nat.pow_succ]
  grind
theorem qT:∀xs:List Dig,val xs < 4294967296 ^ xs.length
 | []=>by simp [val]
 | x::xs=>by
  have h:=qT xs;have:=x.isLt;simp only [val,List.length_cons,Nat.pow_succ];omega
theorem kG(xs:List Dig)(i:Nat):val xs=val (xs.take i)+4294967296 ^ i*val (xs.drop i):=by
 by_cases h:i<=xs.length
 ·have:=vm (xs.take i) (xs.drop i);rw [List.take_append_drop,List.length_take,Nat.min_eq_left h] at this;exact this
 ·rw [List.take_of_length_le oM,List.drop_eq_nil_of_le oM];simp [val]
theorem jr(xs:List Dig)(i:Nat):val (xs.take i) < 4294967296 ^ i:=by
 have h:=qT (xs.take i);have:(xs.take i).length<=i:=by simp;omega
 exact Nat.lt_of_lt_of_le h (Nat.pow_le_pow_right dC this)
theorem zB(xs:List Dig)(i:Nat):val (xs.drop i)=dig xs i+4294967296*val (xs.drop (i+1)):=by
 by_cases h:i < xs.length
 ·rw [List.drop_eq_getElem_cons h,uX,zS (List.getElem?_eq_getElem h)]
 ·rw [List.drop_eq_nil_of_le oM,List.drop_eq_nil_of_le oM,zae oM];rfl
theorem zO(xs:List Dig)(i:Nat):val (xs.take (i+1))=val (xs.take i)+4294967296 ^ i*dig xs i:=by
 have h1:=kG xs i;have h2:=kG xs (i+1);have h3:=zB xs i;rw [Nat.pow_succ] at h2;rw [h3] at h1;generalize 4294967296 ^ i=q at*;generalize val (xs.take (i+1))=a at*;generalize val (xs.take i)=b at*;generalize val (xs.drop (i+1))=c at*;have:q*(dig xs i+4294967296*c)=q*dig xs i+q*4294967296*c:=by rw [Nat.mul_add,Nat.mul_assoc]
 omega
theorem kQ{xs:List Dig}{i:Nat}(h:xs.length<=i):val (xs.take i)=val xs:=by rw [List.take_of_length_le h]
theorem z5{xs:List Dig}{i:Nat}(h:xs.length<=i):val (xs.drop i)=0:=by rw [List.drop_eq_nil_of_le h];rfl
theorem vD:∀(xs:List Dig) (i:Nat) (d:Dig),i < xs.length->val (xs.set i d)+4294967296 ^ i*dig xs i=val xs+4294967296 ^ i*d.val
 | [],i,d,h=>by simp at h
 | x::xs,0,d,_=>by simp only [List.set_cons_zero,val,zem];omega
 | x::xs,i+1,d,h=>by
  have ih:=vD xs i d (by simpa using h);simp only [List.set_cons_succ,val,vC,Nat.pow_succ]
  grind
theorem uY(xs:List Dig)(d:Dig):val (xs++[d])=val xs+4294967296 ^ xs.length*d.val:=by
 rw [vm];simp [val]
theorem zaj(n:Nat):val (List.replicate n (0:Dig))=0:=by
 induction n with
 | zero=>rfl
 | succ n ih=>rw [List.replicate_succ,uX,ih];rfl
theorem jc:zk 0=[]:=by unfold zk;rfl
theorem zc0{n:Nat}(h:n≠0):zk n=⟨n % 4294967296,Nat.mod_lt _ dC⟩::zk (n / 4294967296):=by
 rw [zk];simp [h]
theorem zm(n:Nat):val (zk n)=n:=by
 induction n using Nat.strongRecOn with
 | _ n ih=>
  by_cases h:n=0
  ·subst h;rw [jc];rfl
  ·rw [zc0 h,uX,ih _ (Nat.div_lt_self (Nat.pos_of_ne_zero h) dC)];show n % 4294967296+_=n;omega
def znX(xs:List Dig):Prop:=xs=[]∨dig xs (xs.length - 1)≠0
theorem zen:∀{xs:List Dig},znX xs->xs≠[]->val xs≠0
 | [],_,h=>absurd rfl h
 | [x],h,_=>by
  rcases h with h | h
  ·cases h
  ·have:dig [x] ([x].length - 1)=x.val:=rfl;simp only [val];omega
 | x::y::r,h,_=>by
  have h':znX (y::r):=by
   rcases h with h | h
   ·cases h
   ·right
    simp only [List.length_cons,Nat.add_sub_cancel] at h ⊢;rw [vC] at h;exact h
  have:=zen h' (by simp);rw [uX];omega
theorem znY:∀{xs:List Dig},znX xs->zk (val xs)=xs
 | [],_=>jc
 | x::r,h=>by
  have hp:=zen h (by simp)
  have h':znX r:=by
   rcases h with h | h
   ·cases h
   ·cases r with
    | nil=>exact .inl rfl
    | cons y r=>
     right
     simp only [List.length_cons,Nat.add_sub_cancel] at h ⊢;rw [vC] at h;exact h
  have hx:=x.isLt;rw [zc0 hp];have e1:val (x::r) % 4294967296=x.val:=by rw [uX];omega
  have e2:val (x::r) / 4294967296=val r:=by rw [uX];omega
  rw [e2,znY h'];congr 1;exact Fin.ext e1
theorem vn(n:Nat):znX (zk n):=by
 induction n using Nat.strongRecOn with
 | _ n ih=>
  by_cases h:n=0
  ·subst h;rw [jc];exact .inl rfl
  ·have ih:=ih _ (Nat.div_lt_self (Nat.pos_of_ne_zero h) (show 1 < 4294967296 by decide))
   right
   rw [zc0 h]
   rcases ih with ih | ih
   ·have e:=zm (n / 4294967296);rw [ih] at e ⊢;simp only [val] at e;show n % 4294967296≠0;omega
   ·by_cases he:zk (n / 4294967296)=[]
    ·rw [he] at ih;exact absurd (by rfl) ih
    ·obtain ⟨y,r,he⟩:=List.exists_cons_of_ne_nil he;rw [he] at ih ⊢;simp only [List.length_cons,Nat.add_sub_cancel] at ih ⊢;rw [vC];exact ih
theorem ziJ{xs:List Dig}{n:Nat}(h:n=0∨dig xs (n - 1)≠0)(hn:n<=xs.length)(hz:∀i,n<=i->dig xs i=0):xs.take n=zk (val xs):=by
 have e:val xs=val (xs.take n):=by
  rw [kG xs n]
  have:val (xs.drop n)=0:=by
   have key:∀k,val (xs.drop (n+k))=0∨k<=xs.length:=fun k=>by
    by_cases hk:k<=xs.length
    ·exact .inr hk
    ·exact .inl (z5 oM)
   have down:∀j,val (xs.drop (n+(xs.length - j)))=0:=by
    intro j
    induction j with
    | zero=>exact z5 oM
    | succ j ih=>
     by_cases hj:j < xs.length
     ·rw [zB,hz _ oM,show n+(xs.length - (j+1))+1=n+(xs.length - j) by omega,ih]
     ·rw [show n+(xs.length - (j+1))=n+(xs.length - j) by omega];exact ih
   have:=down xs.length
   simpa using this
  rw [this];simp
 rw [e,znY]
 by_cases hn0:n=0
 ·subst hn0;exact .inl rfl
 ·right
  rw [List.length_take,Nat.min_eq_left hn,zvx,if_pos oM];exact h.resolve_left hn0
theorem yd{n k:Nat}(h:n < 4294967296 ^ k):(zk n).length<=k:=by
 induction k generalizing n with
 | zero=>
   have:n=0:=by simpa using h
   subst this;rw [jc];simp
 | succ k ih=>
  by_cases h0:n=0
  ·subst h0;rw [jc];simp
  ·rw [zc0 h0,List.length_cons]
   have:n / 4294967296 < 4294967296 ^ k:=by
    rw [Nat.div_lt_iff_lt_mul dC];rwa [Nat.pow_succ] at h
   have:=ih this;omega
theorem zb6{n k:Nat}(h:(zk n).length<=k):n < 4294967296 ^ k:=by
 have:=qT (zk n);rw [zm] at this;exact Nat.lt_of_lt_of_le this (Nat.pow_le_pow_right dC h)
theorem zG(xs:List Dig):(zk (val xs)).length<=xs.length:=yd (qT xs)
theorem yr{n:Nat}:zk n=[]↔n=0:=by
 constructor
 ·intro h;have:=zm n;rw [h] at this;exact this.symm
 ·rintro rfl;exact jc
theorem jm{n:Nat}:0 < (zk n).length↔n≠0:=by
 rw [List.length_pos_iff,Ne,yr]
theorem zmh{n:Nat}(h:n≠0):4294967296 ^ ((zk n).length - 1)<=n:=by
 rcases Nat.lt_or_ge n (4294967296 ^ ((zk n).length - 1)) with h1 | h1
 ·have:=yd h1;have:=jm.2 h;omega
 ·exact h1
theorem qf{m n:Nat}(h:m<=n):(zk m).length<=(zk n).length:=yd (Nat.lt_of_le_of_lt h (zb6 (Nat.le_refl _)))
theorem zc1{xs ys:List Dig}{k:Nat}(h:∀i,k<=i->dig xs i=dig ys i):val (xs.drop k)=val (ys.drop k):=by
 have down:∀j,∀k',k<=k'->max xs.length ys.length<=k'+j->val (xs.drop k')=val (ys.drop k'):=by
  intro j
  induction j with
  | zero=>intro k' _ hk;rw [z5 oM,z5 oM]
  | succ j ih=>
   intro k' hk hj;rw [zB,zB ys,h k' hk,ih (k'+1) oM oM]
 exact down (max xs.length ys.length) k (Nat.le_refl _) oM
theorem zkM{xs ys:List Dig}(h:∀i,dig xs i=dig ys i):val xs=val ys:=by
 have:=zc1 (k:=0) (xs:=xs) (ys:=ys) (fun i _=>h i)
 simpa using this
theorem zyM(xs:List Dig)(i:Nat):dig xs i=val xs / 4294967296 ^ i % 4294967296:=by
 have h1:=kG xs i;have h2:=jr xs i;have h3:=zB xs i;have h4:=yB xs i
 have e:val xs / 4294967296 ^ i=val (xs.drop i):=by
  rw [h1,Nat.add_comm,Nat.mul_add_div (zcZ i),Nat.div_eq_of_lt h2,Nat.add_zero]
 rw [e,h3];omega
theorem ziK(xs:List Dig)(i:Nat):val (xs.drop i)=val xs / 4294967296 ^ i:=by
 have h1:=kG xs i;have h2:=jr xs i;rw [h1,Nat.add_comm,Nat.mul_add_div (zcZ i),Nat.div_eq_of_lt h2,Nat.add_zero]
theorem znZ(xs:List Dig)(i:Nat):val (xs.take i)=val xs % 4294967296 ^ i:=by
 have h1:=kG xs i;have h2:=jr xs i;rw [h1,Nat.add_mul_mod_self_left,Nat.mod_eq_of_lt h2]
def dof(n:Nat):Dig:=⟨n % 4294967296,Nat.mod_lt _ dC⟩
theorem ki(n:Nat):(dof n).val=n % 4294967296:=rfl
def kA(n:Nat):Nat:=if n=0 then 0 else n.log2+1
theorem zc2(n:Nat):n < 2 ^ kA n:=by
 unfold kA;split
 ·subst_vars;decide
 ·exact Nat.lt_log2_self
theorem zbt{n:Nat}(h:n≠0):2 ^ (kA n - 1)<=n:=by
 unfold kA;rw [if_neg h];exact Nat.log2_self_le h
theorem zfm{n k:Nat}(h1:n < 2 ^ k)(h2:n≠0)(h3:2 ^ (k - 1)<=n):kA n=k:=by
 have a:=zc2 n;have b:=zbt h2;have c:2 ^ (kA n - 1) < 2 ^ k:=Nat.lt_of_le_of_lt b h1;have d:2 ^ (k - 1) < 2 ^ kA n:=Nat.lt_of_le_of_lt h3 a;have c:=(Nat.pow_lt_pow_iff_right (by decide:1 < 2)).1 c;have d:=(Nat.pow_lt_pow_iff_right (by decide:1 < 2)).1 d;have:0 < kA n:=by unfold kA;rw [if_neg h2];omega
 have:k≠0:=by rintro rfl;simp at h1;exact h2 h1
 omega
theorem zqb:kA 0=0:=rfl
theorem zbu{n:Nat}:0 < kA n↔n≠0:=by
 unfold kA;split <;> omega
theorem zaG(k:Nat):4294967296 ^ k=2 ^ (32*k):=by rw [show 4294967296=2 ^ 32 by decide,← Nat.pow_mul]
theorem ztk{n:Nat}(h:2<=n):n.log2=(n / 2).log2+1:=by rw [Nat.log2_def,if_pos h]
theorem zqc{n:Nat}(h:n≠0):kA n=kA (n / 2)+1:=by
 unfold kA;rw [if_neg h]
 by_cases h1:n / 2=0
 ·rw [if_pos h1];have:n=1:=oM;subst this;rfl
 ·rw [if_neg h1,ztk oM]
theorem zbv{xs:List Dig}(hn:dig xs (xs.length - 1)≠0):kA (val xs)=32*(xs.length - 1)+kA (dig xs (xs.length - 1)):=by
 have hl:0 < xs.length:=by
  rcases Nat.eq_zero_or_pos xs.length with h | h
  ·rw [List.length_eq_zero_iff.1 h] at hn;exact absurd rfl hn
  ·exact h
 have e1:=kG xs (xs.length - 1);have e2:=jr xs (xs.length - 1);have e3:=zB xs (xs.length - 1);rw [show xs.length - 1+1=xs.length by omega,z5 (Nat.le_refl _),Nat.mul_zero,Nat.add_zero] at e3;rw [e3] at e1;generalize dig xs (xs.length - 1)=t at*;have p1:=zc2 t;have p2:=zbt hn;rw [zaG] at e1 e2;have p0:0 < 2 ^ (32*(xs.length - 1)):=Nat.pow_pos dC;have np:0 < kA t:=zbu.2 hn;refine zfm ?_ ?_ ?_
 ·rw [Nat.pow_add];have:2 ^ (32*(xs.length - 1))*(t+1)<=2 ^ (32*(xs.length - 1))*2 ^ kA t:=Nat.mul_le_mul_left _ p1;rw [Nat.mul_add,Nat.mul_one] at this;omega
 ·have:2 ^ (32*(xs.length - 1))*1<=2 ^ (32*(xs.length - 1))*t:=Nat.mul_le_mul_left _ oM;omega
 ·rw [show 32*(xs.length - 1)+kA t - 1=32*(xs.length - 1)+(kA t - 1) by omega,Nat.pow_add];have:2 ^ (32*(xs.length - 1))*2 ^ (kA t - 1)<=2 ^ (32*(xs.length - 1))*t:=Nat.mul_le_mul_left _ p2;omega
theorem zc3{xs:List Dig}{N:Nat}(h:∀j,j < xs.length->dig xs j=N / 4294967296 ^ j % 4294967296):val xs=N % 4294967296 ^ xs.length:=by
 have key:∀i,i<=xs.length->val (xs.take i)=N % 4294967296 ^ i:=by
  intro i
  induction i with
  | zero=>intro _;rw [Nat.pow_zero,Nat.mod_one];rfl
  | succ i ih=>
   intro hi;rw [zO,ih oM,h i oM,Nat.pow_succ,Nat.mod_mul]
 have:=key xs.length (Nat.le_refl _)
 rwa [List.take_length] at this
theorem zrA(xs:List Dig)(w s j:Nat)(hs:s < 32):val xs / 2 ^ (32*w+s) / 4294967296 ^ j % 4294967296=(dig xs (w+j+1)*4294967296+dig xs (w+j)) / 2 ^ s % 4294967296:=by
 have e:val xs / 2 ^ (32*w+s) / 4294967296 ^ j=val (xs.drop (w+j)) / 2 ^ s:=by
  rw [ziK,Nat.div_div_eq_div_mul,Nat.div_div_eq_div_mul];congr 1;rw [zaG,zaG,← Nat.pow_add,← Nat.pow_add];congr 1;omega
 rw [e,zB,zB];generalize val (xs.drop (w+j+1+1))=R;generalize dig xs (w+j+1)=x;generalize dig xs (w+j)=y;have hp:2 ^ s*2 ^ (32 - s)=4294967296:=by rw [← Nat.pow_add,show s+(32 - s)=32 by omega]
 have:y+4294967296*(x+4294967296*R)=(x*4294967296+y)+2 ^ s*(2 ^ (32 - s)*4294967296*R):=by
  rw [show 2 ^ s*(2 ^ (32 - s)*4294967296*R)=(2 ^ s*2 ^ (32 - s))*4294967296*R by simp only [Nat.mul_assoc],hp];omega
 rw [this,Nat.add_mul_div_left _ _ (Nat.pow_pos dC)];rw [show 2 ^ (32 - s)*4294967296*R=4294967296*(2 ^ (32 - s)*R) by rw [Nat.mul_comm (2 ^ (32 - s)),Nat.mul_assoc],Nat.add_mul_mod_self_left]
open Go.Proofs
def dgE(d:Dig):List SV:=[.val (.int .u32 (d.val:Int))]
abbrev u32(n:Int):SV:=.val (.int .u32 n)
abbrev u64(n:Int):SV:=.val (.int .u64 n)
abbrev qe(xs:List Dig):Mem:=.arr 128 dgE 1 xs
theorem qE(xs:List Dig):zgY (qe xs):=fun _ _=>rfl
theorem qp(xs:List Dig):zhD (qe xs):=fun _ _=>rfl
theorem ziL(e:Int):IntKind.u32.wrap e=e % 4294967296:=rfl
theorem yo(e:Int):IntKind.u64.wrap e=e % 18446744073709551616:=rfl
theorem zgo(d:Dig):[d].length=1/\1<=281474976710656/\1*1<=16777216/\0 < 1/\∀x∈[d],(dgE x).length=1/\jI (dgE x)=true/\jW.flats (dgE x)=true:=
 ⟨rfl,dC,dC,dC,fun _ _=>⟨rfl,rfl,rfl⟩⟩
theorem zeo:([]:List Dig).length=0/\0<=281474976710656/\0*1<=16777216/\0 < 1/\∀x∈([]:List Dig),(dgE x).length=1/\jI (dgE x)=true/\jW.flats (dgE x)=true:=
 ⟨rfl,dC,dC,dC,fun _ _=>⟨rfl,rfl,rfl⟩⟩
theorem zgp{xs ys:List Dig}(h:xs.length+ys.length<=2000000000):((xs.length+ys.length:Int)*(4:Nat)<=140737488355328/\xs.length+ys.length<=281474976710656/\0 < 1/\∀x∈ys,(dgE x).length=1):=
 ⟨oM,oM,dC,fun _ _=>rfl⟩
def zfn(a b:Nat):Int:=if a < b then -1 else if b < a then 1 else 0
theorem zdP{a b:Nat}:zfn a b < 0↔a < b:=by
 unfold zfn;split
 ·simp_all
 ·split <;> simp_all
theorem zrB{a b:Nat}:0 < zfn a b↔b < a:=by
 unfold zfn;split
 ·simp;omega
 ·split <;> simp_all
theorem jn(a:List Dig)(ha:a.length<=1000000000):zd Tryz.prog 114 [.sl dgE a] [] (.own 0) [(0,qe (zk (val a)))]:=by
 refine qS tok mix Tryz.func114 rfl rfl rfl ?_;intro hl0;refine ⟨Nat,fun n=>⟨[(3,i64 n),(0,.sl dgE a)],[],0,34,0⟩,fun n=>n<=a.length/\∀i,n<=i->dig a i=0,fun n=>n,a.length,?_,?_,?_⟩
 ·exact ⟨Nat.le_refl _,fun i h=>zae h⟩
 ·exact zf []
 rintro n ⟨h1,h2⟩
 have post:∀(n:Nat),n<=a.length->(∀i,n<=i->dig a i=0)->(n=0∨dig a (n - 1)≠0)->zk (val a)=a.take n:=fun n h1 h2 h3=>(ziJ h3 h1 h2).symm
 refine Br.mk (fun h3=>?_) (fun h3=>?_)
 ·refine Ar.o ?_;refine Ob.o ?_;intro x hx;refine Br.mk (fun h4=>?_) (fun h4=>?_)
  ·refine Ar.o ?_;refine ⟨n - 1,⟨oM,fun i hi=>?_⟩,z9 [] ⟨congrArg (fun n=>some (i64 n)) oM,rfl,trivial⟩ trivial,by dsimp only;omega⟩
   by_cases e:i=n - 1
   ·subst e;rw [show ((n:Int) - 1).toNat=n - 1 by omega] at hx;rw [zS hx];omega
   ·exact h2 i oM
  ·have h5:dig a (n - 1)≠0:=by
    rw [show ((n:Int) - 1).toNat=n - 1 by omega] at hx;rw [zS hx];omega
   rw [post n h1 h2 (.inr h5)];refine ⟨Dig,dgE,[],rfl,Ob.mk zeo ?_⟩;refine ⟨Nat,fun i=>⟨[(5,i64 i),(3,i64 n),(4,.own 0),(0,.sl dgE a)],[(0,qe (a.take i))],1,34,0⟩,fun i=>i<=n,fun i=>n - i,0,?_,?_,?_⟩
   ·exact Nat.zero_le _
   ·exact zf [(0,some 0)]
   rintro i hi
   have hi:i<=n:=hi;refine Br.mk (fun k1=>?_) (fun k1=>?_)
   ·refine Ob.o ?_;intro y hy;refine ⟨Dig,dgE,[y],rfl,Ob.mk (zgo y) ?_⟩;refine ⟨_,rfl,Ob.mk (zgp (by simp;omega)) ?_⟩;refine Ar.o ?_
    refine ⟨i+1,by show i+1<=n;omega,qw [(0,some 2)] rfl rfl rfl ⟨rfl,rfl,rfl,rfl,trivial⟩
     ⟨congrArg (fun l=>some (qe l)) (by rw [List.take_add_one,show a[i]? =some y from hy];rfl),trivial⟩,by dsimp only;omega⟩
   ·have hin:i=n:=by omega
    subst hin;exact ⟨some 0,.own _ rfl,rfl,fun _ _=>rfl⟩
 ·have h5:n=0:=by omega
  rw [post n h1 h2 (.inl h5)];refine ⟨Dig,dgE,[],rfl,Ob.mk zeo ?_⟩;refine ⟨Nat,fun i=>⟨[(5,i64 i),(3,i64 n),(4,.own 0),(0,.sl dgE a)],[(0,qe (a.take i))],1,34,0⟩,fun i=>i<=n,fun i=>n - i,0,?_,?_,?_⟩
  ·exact Nat.zero_le _
  ·exact zf [(0,some 0)]
  rintro i hi
  have hi:i<=n:=hi;refine Br.mk (fun k1=>?_) (fun k1=>?_)
  ·refine Ob.o ?_;intro y hy;refine ⟨Dig,dgE,[y],rfl,Ob.mk (zgo y) ?_⟩;refine ⟨_,rfl,Ob.mk (zgp (by simp;omega)) ?_⟩;refine Ar.o ?_
   refine ⟨i+1,by show i+1<=n;omega,qw [(0,some 2)] rfl rfl rfl ⟨rfl,rfl,rfl,rfl,trivial⟩
    ⟨congrArg (fun l=>some (qe l)) (by rw [List.take_add_one,show a[i]? =some y from hy];rfl),trivial⟩,by dsimp only;omega⟩
  ·have hin:i=n:=by omega
   subst hin;exact ⟨some 0,.own _ rfl,rfl,fun _ _=>rfl⟩
theorem yu(a:List Dig)(i:Int)(hi:0<=i):zd Tryz.prog 213 [.sl dgE a,i64 i] [] (u64 (dig a i.toNat)) []:=by
 refine zc tok mix Tryz.func213 rfl rfl rfl ?_;refine Br.mk (fun h=>?_) (fun h=>?_)
 ·omega
 intro hl;refine Br.mk (fun h2=>?_) (fun h2=>?_)
 ·exact zj (by rw [zae oM];rfl)
 ·refine Ob.o ?_;intro x hx;have:=x.isLt;refine Ar.o ?_;exact zj (by rw [zS hx])
theorem zaH{n:Nat}{e:Int}(h:e=n):((dof n).val:Int)=IntKind.u32.wrap e:=by rw [ziL,ki,h];omega
theorem zfo{a b:List Dig}{j:Nat}(h:∀i,j+1<=i->dig a i=dig b i)(hl:dig a j < dig b j):val a < val b:=by
 have e1:=kG a j;have e2:=kG b j;have e3:=jr a j;have e4:=zB a j;have e5:=zB b j;have e6:=zc1 h;have:val (a.drop j)+1<=val (b.drop j):=oM;have:=Nat.mul_le_mul_left (4294967296 ^ j) this;rw [Nat.mul_add] at this;omega
theorem zvy(a b:List Dig)(ha:a.length<=1000000000)(hb:b.length<=1000000000):
  zd Tryz.prog 214 [.sl dgE a,.sl dgE b] [] (i64 (zfn (val a) (val b))) []:=by
 refine zc tok mix Tryz.func214 rfl rfl rfl ?_;intro hl1 hl2;refine Ar.fit (by simp only [ze4];omega) ?_;refine ⟨Nat,fun j=>⟨[(5,i64 ((j:Int) - 1)),(0,.sl dgE a),(1,.sl dgE b)],[],0,30,0⟩,fun j=>j<=1000000000/\∀i,j<=i->dig a i=dig b i,fun j=>j,max a.length b.length,?_,?_,?_⟩
 ·exact ⟨oM,fun i hi=>by rw [zae oM,zae oM]⟩
 ·exact z9 [] ⟨congrArg (fun n=>some (i64 n)) (by simp only [ze4];omega),rfl,rfl,trivial⟩ trivial
 rintro j ⟨h1,h2⟩
 refine Br.mk (fun h3=>?_) (fun h3=>?_)
 ·have e:((j:Int) - 1).toNat=j - 1:=by omega
  have h2':∀i,j - 1+1<=i->dig a i=dig b i:=fun i hi=>h2 i oM
  refine zb.t (yu a _ oM) ?_;refine zb.t (yu b _ oM) ?_;refine Br.mk (fun h4=>?_) (fun h4=>?_)
  ·have:=zfo h2' (by rw [e] at h4;omega);exact zj (by rw [zfn,if_pos this])
  refine zb.t (yu a _ oM) ?_;refine zb.t (yu b _ oM) ?_;refine Br.mk (fun h5=>?_) (fun h5=>?_)
  ·have:=zfo (fun i hi=>(h2' i hi).symm) (by rw [e] at h5;omega);exact zj (by rw [zfn,if_neg oM,if_pos this])
  refine Ar.o ?_;refine ⟨j - 1,⟨oM,fun i hi=>?_⟩,z9 [] ⟨congrArg (fun n=>some (i64 n)) oM,rfl,rfl,trivial⟩ trivial,by dsimp only;omega⟩
  by_cases hij:i=j - 1
  ·subst hij;rw [e] at h4 h5;omega
  ·exact h2 i oM
 ·have hj:j=0:=by omega
  subst hj;have:=zkM fun i=>h2 i (Nat.zero_le _)
  exact zj (by rw [zfn,if_neg oM,if_neg oM])
theorem zA6(a b:List Dig)(ha:a.length<=900000000)(hb:b.length<=900000000):
  zd Tryz.prog 160 [.sl dgE a,.sl dgE b] [] (.own 0) [(0,qe (zk (val a+val b)))]:=by
 refine qS tok mix Tryz.func160 rfl rfl rfl ?_;refine ⟨Dig,dgE,[],rfl,Ob.mk zeo ?_⟩
 refine ⟨Nat×List Dig×Nat,fun q=>⟨[(7,i64 q.1),(6,u64 q.2.2),(5,.own 0),(0,.sl dgE a),(1,.sl dgE b)],[(0,qe q.2.1)],1,42,0⟩,
  fun q=>q.1<=max a.length b.length/\q.2.1.length=q.1/\q.2.2<=1/\val q.2.1+4294967296 ^ q.1*q.2.2=val (a.take q.1)+val (b.take q.1),fun q=>max a.length b.length - q.1,(0,[],0),?_,?_,?_⟩
 ·exact ⟨Nat.zero_le _,rfl,Nat.zero_le _,rfl⟩
 ·exact zf [(0,some 0)]
 rintro ⟨i,out,c⟩ ⟨h1,h2,h3,h4⟩
 dsimp only at h1 h2 h3 h4;intro hl1 hl2;refine Br.mk (fun h5=>?_) (fun h5=>?_)
 ·simp only [ze4] at h5;have d1:=yB a i;have d2:=yB b i;refine zb.t (yu a _ oM) ?_;refine zb.t (yu b _ oM) ?_;simp only [Int.toNat_natCast];(iterate 2 refine Ar.o ?_);refine Ar.wrap ?_;refine ⟨Dig,dgE,[dof (dig a i+dig b i+c)],congrArg (fun n=>[u32 n]) (zaH oM),Ob.mk (zgo _) ?_⟩;refine ⟨_,rfl,Ob.mk (zgp (by simp;omega)) ?_⟩;refine Ob.o1 ?_;refine Ar.o ?_
  refine ⟨(i+1,out++[dof (dig a i+dig b i+c)],(dig a i+dig b i+c) / 4294967296),⟨by dsimp only;omega,by simp [h2],by dsimp only;omega,?_⟩,
   z9 [(0,some 2)] ⟨rfl,congrArg (fun n=>some (u64 n)) (by dsimp only;omega),rfl,rfl,rfl,trivial⟩ ⟨rfl,trivial⟩,by dsimp only;omega⟩
  dsimp only;rw [uY,h2,ki,zO,zO,Nat.pow_succ];have e:=Nat.div_add_mod (dig a i+dig b i+c) 4294967296;generalize (dig a i+dig b i+c) / 4294967296=x at*;generalize (dig a i+dig b i+c) % 4294967296=y at*;generalize 4294967296 ^ i=p at*
  grind
 ·simp only [ze4] at h5;have hi:i=max a.length b.length:=oM;refine Ar.wrap ?_;refine ⟨Dig,dgE,[dof c],congrArg (fun n=>[u32 n]) (zaH rfl),Ob.mk (zgo _) ?_⟩;refine ⟨_,rfl,Ob.mk (zgp (by simp;omega)) ?_⟩;refine zb.fresh _ _ (jn _ (by simp;omega)) rfl (qE _) (.inr (qp _)) ?_;refine ⟨some 3,.own _ rfl,?_,fun _ _=>rfl⟩
  have e:val (out++[dof c])=val a+val b:=by
   rw [uY,h2,ki,Nat.mod_eq_of_lt oM,h4,kQ oM,kQ oM]
  rw [← e];rfl
end Go.Gs
