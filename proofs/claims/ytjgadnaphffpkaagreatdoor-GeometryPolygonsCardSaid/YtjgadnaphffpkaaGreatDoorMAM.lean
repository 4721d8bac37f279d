/- A function that is handed blocks, and leaves blocks, za many za it will. -/
import Derived.Test.YtjgadnaphffpkaaGreatDoorMA
import Derived.Test.YtjgadnaphffpkaaGreatDoorMAK
import Derived.RowKit3
import Derived.Below
import GoSem.Claim
import Derived.Test.YtjgadnaphffpkaaGreatDoorMAL
set_option maxRecDepth 100000
set_option maxHeartbeats 8000000
set_option linter.all false
namespace Go.Gs
section
def endG(Γ:List (TypeId×TI))(rs:List ResultVar)(r:SV)(M':List (Nat×Mem))(e:Ex)(σ:St):Prop:=
 match e with
 | .exit _=>False
 | _=>∃σ',Sub σ σ'/\σ'.M=M'/\zbI σ' Γ rs λs=>LE s r
variable{P:Program}{Γ:List (TypeId×TI)}{f:FuncId}{fn:Func}{c:Code}{r:SV}
theorem uX(hT:TOK P Γ) (hm:P.follows .mixedOrders=true){args:List SV} {M M':List (Nat×Mem)}
  (hf:P.funcs[f]? =some fn) (hb:fn.body=some c) (hn:(fn.name== "runtime.NumGoroutine")=false) (hle:Nat.ble args.length fn.ntmps=true)
  (h:jK P Γ c ⟨yb 0 args,M,M.length,fn.ntmps,M.length⟩ (endG Γ fn.results.toList r M')):qF P f args M r M':=by
 refine zaF hT hm hf hb hn hle h (Q':=λe σ=>(∀id,e≠.exit id)/\σ.M=M'/\zbI σ Γ fn.results.toList λs=>LE s r) (λe σ hq=>?_) (λe σ hq he=>?_) (λid σ hq=>hq.1 id rfl)
 ·cases e with
  | exit id=>exact hq.elim
  | normal=>obtain⟨σ',h1,h2,h3⟩:=hq;exact⟨σ',h1,λ_=>by simp,h2,h3⟩
  | ret=>obtain⟨σ',h1,h2,h3⟩:=hq;exact⟨σ',h1,λ_=>by simp,h2,h3⟩
 ·obtain⟨_,hM,hq⟩:=hq;obtain⟨s,hle,h1⟩:=yo hT hq;refine⟨s,h1,λ{E ρ a w v} hr hW hρ0 hg=>⟨ρ,?_,?_,?_⟩⟩
  ·have hs:=hr.stp;rw[hM]at hs;exact⟨hs.os,hs.tape,hs.output,hs.size,λb hb hn=>hs.block b hb λh=>hn ((hW b).1 h),λb hb=>(hs.own b hb).imp (hW b).1 id,hs.rho⟩
  ·have:=hr.mem
   rwa [hM]at this
  ·rw[hM]at hg;exact hle _ _ _ _ _ hg
variable{σ:St}
theorem zys(k0:Nat) {m m':Mem} (h0:zY σ.M k0=some m)
  (hm:∀(S Pm:Nat->Prop) (ρ:zj) (w:World),jW S Pm ρ w k0 m->jW S Pm ρ w k0 m'):
  Sub σ ⟨σ.L,qL σ.M k0 m',σ.nk,σ.nt,σ.n0⟩:=by
 intro E ρ a w hr;refine⟨ρ,?_⟩;have hkeys:(qL σ.M k0 m').map (·.1)=σ.M.map (·.1):=zaB;have hown:∀b,Own (qL σ.M k0 m') ρ b->Own σ.M ρ b:=λb hb=>vZ hkeys.symm hb
 have hown':∀b,Own σ.M ρ b->Own (qL σ.M k0 m') ρ b:=λb hb=>vZ hkeys hb
 have eo:Own (qL σ.M k0 m') ρ=Own σ.M ρ:=funext λb=>propext ⟨hown b,hown' b⟩
 refine⟨hr.size,hr.defers,λt s hl=>?_,⟨λk1 m1 h1=>?_,yP hkeys hr.mem.keys,λk1 m1 k2 m2 v1 v2 b h1 h2=>?_,λb hb=>hr.mem.old b (hown b hb),hr.mem.kp,hr.mem.glO hown⟩,
  hr.fresh,?_,hr.keep,hr.low⟩
 ·show t < σ.nt/\G (λb=>E.Keep b∨Own (qL σ.M k0 m') ρ b) (Own (qL σ.M k0 m') ρ) ρ w s (a.tmps.getD t undef);rw[eo];exact hr.regs t s hl
 ·show jW (λb=>E.Keep b∨Own (qL σ.M k0 m') ρ b) (Own (qL σ.M k0 m') ρ) ρ w k1 m1;rw[eo]
  rcases jL hr.mem.keys _ h1 with⟨_,h2⟩ | h2
  ·exact hr.mem.rel k1 m1 h2
  ·cases h2
   exact hm _ _ _ _ (hr.mem.rel k0 m (zA h0))
 ·have back:∀k1 m1,(k1,m1)∈qL σ.M k0 m'->∃m',(k1,m')∈σ.M:=λk1 m1 h=>by
   rcases jL hr.mem.keys _ h with⟨_,h2⟩ | h2
   ·exact⟨m1,h2⟩
   ·cases h2;exact⟨_,zA h0⟩
  obtain⟨m1',h1'⟩:=back _ _ h1;obtain⟨m2',h2'⟩:=back _ _ h2;exact hr.mem.apart k1 m1' k2 m2' v1 v2 b h1' h2'
 ·show Stp E.W0 (Own (qL σ.M k0 m') ρ) E.ρ0 ρ E.w0 w;rw[eo];exact hr.stp
theorem LEs.ixs{za bs:List SV}(h:LEs za bs):za.length=bs.length/\∀(j:Nat) (r:SV),bs[j]? =some r->∃s,za[j]? =some s/\LE s r:=by
 induction h with
 | nil=>exact⟨rfl,λj r h=>by simp at h⟩
 | cons h t ih=>
  refine⟨by simp[ih.1],λj r hr=>?_⟩
  cases j with
  | zero=>simp at hr;subst hr;exact⟨_,rfl,h⟩
  | succ j=>simpa using ih.2 j r (by simpa using hr)
inductive Rows:List (List SV)->List (List SV)->Prop
 | nil:Rows [] []
 | cons {x y:List SV} {xs ys:List (List SV)} (h:LEs x y) (t:Rows xs ys):Rows (x::xs) (y::ys)
theorem Rows.refl:∀{xs:List (List SV)},Rows xs xs
 | []=>.nil
 | _::_=>.cons .refl .refl
variable{ys:List (List SV)}
theorem Rows.app{xs us vs:List (List SV)}(h:Rows xs ys)(k:Rows us vs):Rows (xs++us) (ys++vs):=by
 induction h with
 | nil=>exact k
 | cons h t ih=>exact .cons h ih
theorem Rows.ix{xs:List (List SV)}(h:Rows xs ys):xs.length=ys.length/\∀(i:Nat) y,ys[i]? =some y->∃x,xs[i]? =some x/\LEs x y:=by
 induction h with
 | nil=>exact⟨rfl,λi y h=>by simp at h⟩
 | cons h t ih=>
  refine⟨by simp[ih.1],λi y hy=>?_⟩
  cases i with
  | zero=>simp at hy;subst hy;exact⟨_,rfl,h⟩
  | succ i=>simpa using ih.2 i y (by simpa using hy)
theorem zd8(k0:Nat){T:TypeId}{sz:Nat}{xs:List (List SV)}(h0:zY σ.M k0=some (.garr T sz xs))(h:Rows xs ys):Sub σ ⟨σ.L,qL σ.M k0 (.garr T sz ys),σ.nk,σ.nt,σ.n0⟩:=by
 refine zys k0 h0 λS Pm ρ w ⟨v,cells,g1,g2,g3,g4,g5,g6⟩=>⟨v,cells,g1,by rw[← h.ix.1];exact g2,by rw[← h.ix.1];exact g3,g4,λy hy=>?_,λi j y s hy hs=>?_⟩
 ·obtain⟨i,hi⟩:=J7.1 hy;obtain⟨x,hx,hle⟩:=h.ix.2 i y hi;rw[← hle.ixs.1];exact g5 x (Xd hx)
 ·obtain⟨x,hx,hle⟩:=h.ix.2 i y hy;obtain⟨s',hs',hl⟩:=hle.ixs.2 j s hs;obtain⟨u,hu,hg⟩:=g6 i j x s' hx hs';exact⟨u,hu,hl _ _ _ _ _ hg⟩
theorem law_walk'{args:List SV} {vs:List Value} {w:World} (h:qF P f args [] (bl true) [])
  (hg:∀S Pm:Nat->Prop,(∀b,¬S b)->(∀b,¬Pm b)->Gs S Pm (λ_=>none) w args vs) (hgl:∀g v,GL g v->w.cell? ⟨g,0,none⟩=some v:=by intro _ _ h;cases h):
  Calls P f vs.toArray w λe w'=>e=.returned (.bool true)/\RowKit.Grown w w'/\RowKit.Below w.heap.size w w':=by
 refine(h.2 (λ_=>False) (λ_=>none) w vs (λ_ h=>h.elim) (jd (λ_ h=>h.elim) hgl) (λ_ _=>rfl) (hg _ _ (λb hb=>hb.elim id zZ) (λb=>zZ))).mono ?_
 rintro e w' ⟨v,ρ',rfl,hs,_,hv⟩
 refine⟨by rw[hv.val_inv],⟨⟨hs.os,hs.output.1,λi hi=>?_⟩,hs.output.2,hs.size⟩,⟨hs.os,hs.tape,hs.output.1,hs.size,λi hi=>hs.block i hi zZ⟩⟩;rw[hs.block i hi zZ]
 cases w.heap[i]? with
 | none=>rfl
 | some o=>cases o <;> simp
def zvD(P:Program)(Γ:List (TypeId×TI)):Nat->Code->(St->Prop)->St->(Ex->St->Prop)->Prop
 | 0,_,J,σ,_=>J σ
 |n+1,.seq x y,J,σ,Q=>jK P Γ x σ λe σ=>(match e with
  | .normal=>zvD P Γ n y J σ Q
  | .exit id=>Q (.exit id) σ
  | .ret=>Q .ret σ)
 | _+1,_,_,_,_=>False
def zvE:Nat->Code->Code
 | 0,c=>c
 | n+1,.seq _ y=>zvE n y
 | _+1,c=>c
def zcZ(P:Program)(c:Code)(σ:St)(Q:Ex->St->Prop):Prop:=∀(E:Env) (ρ:zj) (a:Act) (w:World),Rel E σ ρ a w->c.wp P (uW E Q) a w
variable{Q:Ex->St->Prop}
theorem zcZ.vc(hT:TOK P Γ)(hm:P.follows .mixedOrders=true)(h:jK P Γ c σ Q):zcZ P c σ Q:=
 λ_ _ _ _ hr=>kV hT hm c hr h
theorem zlu{P:Program}{Γ:List (TypeId×TI)}(hT:TOK P Γ)(hm:P.follows .mixedOrders=true){J:St->Prop}{Q:Ex->St->Prop}:∀(n:Nat) (c:Code) {σ:St},
  zvD P Γ n c J σ Q->(∀σ,J σ->zcZ P (zvE n c) σ Q)->zcZ P c σ Q
 | 0,_,_,h,hJ=>hJ _ h
 | n+1,.seq x y,σ,h,hJ=>λE ρ a w hr=>by
  refine wp_seq (Code.wp_mono (λe a' w' hq=>?_) (kV hT hm x hr h))
  cases e with
  | normal=>obtain⟨σ',ρ',h',hr'⟩:=hq;exact zlu hT hm n y h' hJ E ρ' a' w' hr'
  | exit id=>exact hq
  | ret=>exact hq
  | _=>exact hq.elim
 | _+1,.skip,_,h,_=>h.elim
 | _+1,.region ..,_,h,_=>h.elim
 | _+1,.cond ..,_,h,_=>h.elim
 | _+1,.block ..,_,h,_=>h.elim
 | _+1,.loop ..,_,h,_=>h.elim
 | _+1,.rangeFunc ..,_,h,_=>h.elim
 | _+1,.exit ..,_,h,_=>h.elim
 | _+1,.scope ..,_,h,_=>h.elim
 | _+1,.label ..,_,h,_=>h.elim
 | _+1,.goto ..,_,h,_=>h.elim
 | _+1,.ret,_,h,_=>h.elim
 | _+1,.refuse ..,_,h,_=>h.elim
theorem zcZ.cut(hT:TOK P Γ) (hm:P.follows .mixedOrders=true)(n:Nat) {ι:Type} (S:ι->St) (I:ι->Prop)
  (h:zvD P Γ n c (λσ=>∃i,I i/\Sub σ (S i)) σ Q) (h2:∀i,I i->zcZ P (zvE n c) (S i) Q):zcZ P c σ Q:=
 zlu hT hm n c h λ_ ⟨i,hi,hs⟩ E ρ a w hr=>by
  obtain⟨ρ',hr'⟩:=hs E ρ a w hr;exact h2 i hi E ρ' a w hr'
theorem zcq(hT:TOK P Γ){args:List SV}
  (hf:P.funcs[f]? =some fn) (hb:fn.body=some c) (hn:(fn.name== "runtime.NumGoroutine")=false) (hle:Nat.ble args.length fn.ntmps=true)
  (h:zcZ P c ⟨yb 0 args,[],0,fn.ntmps,0⟩ (endV Γ fn.results.toList r)):qF P f args [] r []:=by
 refine⟨⟨fn,hf,hn,by rw[hb];rfl⟩,λKeep ρ w vs _ hmem hρ hg=>calls_of_wp hf hb ?_⟩;have hrel:=zaE (nt:=fn.ntmps) hmem hρ hg (Xw hle);refine Code.wp_mono (λe a' w' hq=>?_) (h _ _ _ _ hrel)
 have fin:∀σ ρ1,zbI σ Γ fn.results.toList (λs=>LE (zlc (zY σ.M) s) r)->Rel ⟨w,ρ,Keep,Own [] ρ,[]⟩ σ ρ1 a' w'->a'.defers=[]/\∃v,(results fn a'.tmps).run P w'=.ok v w'/\∃v' ρ',Ending.returned v=.returned v'/\Stp (Own [] ρ) (Own [] ρ') ρ ρ' w w'/\
   zN Keep [] ρ' w'/\G (λb=>Keep b∨Own [] ρ' b) (Own [] ρ') ρ' w' r v':=by
  intro σ ρ1 hq hr;obtain⟨s,hle,h1⟩:=yo hT hq;obtain⟨v,g1,hg⟩:=h1 hr;have hs:=hr.stp;refine⟨hr.defers,v,g1,v,ρ1,rfl,⟨hs.os,hs.tape,hs.output,hs.size,hs.block,λb hb=>absurd hb zZ,hs.rho⟩,jd hr.mem.kp λ_ _ h=>hr.mem.glc h,?_⟩;exact hle _ _ _ _ _ (zmO (λk m h=>zA h) hr.mem (λb hb=>.inl (hb.resolve_right zZ)) hg (λb hb hk=>(hr.mem.old b hb).2 (hk.resolve_right zZ)) (λ_=>zZ))
 cases e with
 | normal=>obtain⟨σ,ρ1,hq,hr⟩:=hq;exact fin σ ρ1 hq hr
 | ret=>obtain⟨σ,ρ1,hq,hr⟩:=hq;exact fin σ ρ1 hq hr
 | exit id=>obtain⟨σ,ρ1,hq,hr⟩:=hq;exact hq.elim
 | _=>exact hq.elim
abbrev Dig:=Fin 4294967296
def val:List Dig->Nat
 | []=>0
 | d::r=>d.val+4294967296*val r
def zm(n:Nat):List Dig:=
 if h:n=0 then[] else⟨n % 4294967296,Kl _ dC⟩::zm (n / 4294967296)
termination_by n
decreasing_by exact JY (X5 h) dC
def dig(xs:List Dig)(i:Nat):Nat:=match xs[i]? with
 | some d=>d.val
 | none=>0
theorem zdm(i:Nat):0 < 4294967296 ^ i:=KQ dC
theorem yT(xs:List Dig)(i:Nat):dig xs i < 4294967296:=by
 unfold dig;split
 ·exact Fin.isLt _
 ·decide
variable{xs:List Dig}{i:Nat}
theorem zW{d:Dig}(h:xs[i]? =some d):dig xs i=d.val:=by simp[dig,h]
theorem zay(h:xs.length<=i):dig xs i=0:=by simp[dig,h]
theorem zeI(d:Dig)(r:List Dig):dig (d::r) 0=d.val:=rfl
theorem vV(d:Dig)(r:List Dig)(i:Nat):dig (d::r) (i+1)=dig r i:=by simp[dig]
theorem zvH(xs:List Dig)(k i:Nat):dig (xs.take k) i=if i < k then dig xs i else 0:=by
 by_cases h:i < k <;> simp[dig,Xv,h]
theorem jR(xs:List Dig)(i j:Nat)(d:Dig):dig (xs.set i d) j=if i=j/\i < xs.length then d.val else dig xs j:=by
 simp only[dig,Kq]
 by_cases h:i=j
 ·subst h
  by_cases h2:i < xs.length
  ·simp[h2]
  ·simp[h2];
 ·simp[h]
theorem zqV(xs ys:List Dig)(i:Nat):dig (xs++ys) i=if i < xs.length then dig xs i else dig ys (i - xs.length):=by
 by_cases h:i < xs.length <;> simp[dig,XP,h]
theorem yR(n i:Nat):dig (List.replicate n (0:Dig)) i=0:=by
 simp only[dig,List.getElem?_replicate];by_cases h:i < n <;> simp[h]
theorem zmU:val []=0:=rfl
theorem vl(d:Dig)(r:List Dig):val (d::r)=d.val+4294967296*val r:=rfl
theorem vI:∀xs ys:List Dig,val (xs++ys)=val xs+4294967296 ^ xs.length*val ys
 | [],ys=>by simp[val]
 | x::xs,ys=>by
  simp only[Jb,val,vI xs ys,Xl,XR]
  grind
theorem je:∀xs:List Dig,val xs < 4294967296 ^ xs.length
 | []=>by simp[val]
 | x::xs=>by
  have h:=je xs;have:=x.isLt;simp only[val,Xl,XR];omega
theorem kU(xs:List Dig)(i:Nat):val xs=val (xs.take i)+4294967296 ^ i*val (xs.drop i):=by
 by_cases h:i<=xs.length
 ·have:=vI (xs.take i) (xs.drop i);rw[Kf,Xk,KU h]at this;exact this
 ·rw[Xg oM,Kx oM];simp[val]
theorem qV(xs:List Dig)(i:Nat):val (xs.take i) < 4294967296 ^ i:=by
 have h:=je (xs.take i);have:(xs.take i).length<=i:=by simp;omega
 exact Xq h (XH dC this)
theorem zG(xs:List Dig)(i:Nat):val (xs.drop i)=dig xs i+4294967296*val (xs.drop (i+1)):=by
 by_cases h:i < xs.length
 ·rw[KM h,vl,zW (Xb h)]
 ·rw[Kx oM,Kx oM,zay oM];rfl
theorem zU(xs:List Dig)(i:Nat):val (xs.take (i+1))=val (xs.take i)+4294967296 ^ i*dig xs i:=by
 have h1:=kU xs i;have h2:=kU xs (i+1);have h3:=zG xs i;rw[XR]at h2;rw[h3]at h1;generalize 4294967296 ^ i=q at*;generalize val (xs.take (i+1))=a at*;generalize val (xs.take i)=b at*;generalize val (xs.drop (i+1))=c at*;have:q*(dig xs i+4294967296*c)=q*dig xs i+q*4294967296*c:=by rw[KC,KA]
 omega
theorem kX(h:xs.length<=i):val (xs.take i)=val xs:=by rw[Xg h]
theorem zkZ(xs:List Dig):val (xs.take 0)=0:=rfl
theorem ki(h:xs.length<=i):val (xs.drop i)=0:=by rw[Kx h];rfl
theorem vX:∀(xs:List Dig) (i:Nat) (d:Dig),i < xs.length->val (xs.set i d)+4294967296 ^ i*dig xs i=val xs+4294967296 ^ i*d.val
 | [],i,d,h=>by simp at h
 | x::xs,0,d,_=>by simp only[List.set_cons_zero,val,zeI];omega
 | x::xs,i+1,d,h=>by
  have ih:=vX xs i d (by simpa using h);simp only[JB,val,vV,XR]
  grind
theorem vm(xs:List Dig)(d:Dig):val (xs++[d])=val xs+4294967296 ^ xs.length*d.val:=by
 rw[vI];simp[val]
theorem zaG(n:Nat):val (List.replicate n (0:Dig))=0:=by
 induction n with
 | zero=>rfl
 | succ n ih=>rw[List.replicate_succ,vl,ih];rfl
theorem jr:zm 0=[]:=by unfold zm;rfl
theorem zdn{n:Nat}(h:n≠0):zm n=⟨n % 4294967296,Kl _ dC⟩::zm (n / 4294967296):=by
 rw[zm];simp[h]
theorem zo(n:Nat):val (zm n)=n:=by
 induction n using Nat.strongRecOn with
 | _ n ih=>
  by_cases h:n=0
  ·subst h;rw[jr];rfl
  ·rw[zdn h,vl,ih _ (JY (X5 h) dC)];show n % 4294967296+_=n;omega
def zoE(xs:List Dig):Prop:=xs=[]∨dig xs (xs.length - 1)≠0
theorem zeJ:∀{xs:List Dig},zoE xs->xs≠[]->val xs≠0
 | [],_,h=>absurd rfl h
 | [x],h,_=>by
  rcases h with h | h
  ·cases h
  ·have:dig [x] ([x].length - 1)=x.val:=rfl;simp only[val];omega
 | x::y::r,h,_=>by
  have h':zoE (y::r):=by
   rcases h with h | h
   ·cases h
   ·right
    simp only[Xl,Qd]at h ⊢;rw[vV]at h;exact h
  have:=zeJ h' (by simp);rw[vl];omega
theorem zoF:∀{xs:List Dig},zoE xs->zm (val xs)=xs
 | [],_=>jr
 | x::r,h=>by
  have hp:=zeJ h (by simp)
  have h':zoE r:=by
   rcases h with h | h
   ·cases h
   ·cases r with
    | nil=>exact .inl rfl
    | cons y r=>
     right
     simp only[Xl,Qd]at h ⊢;rw[vV]at h;exact h
  have hx:=x.isLt;rw[zdn hp];have e1:val (x::r) % 4294967296=x.val:=by rw[vl];omega
  have e2:val (x::r) / 4294967296=val r:=by rw[vl];omega
  rw[e2,zoF h'];congr 1;exact Fin.ext e1
theorem vJ(n:Nat):zoE (zm n):=by
 induction n using Nat.strongRecOn with
 | _ n ih=>
  by_cases h:n=0
  ·subst h;rw[jr];exact .inl rfl
  ·have ih:=ih _ (JY (X5 h) (show 1 < 4294967296 by decide))
   right
   rw[zdn h]
   rcases ih with ih | ih
   ·have e:=zo (n / 4294967296);rw[ih]at e ⊢;simp only[val]at e;show n % 4294967296≠0;omega
   ·by_cases he:zm (n / 4294967296)=[]
    ·rw[he]at ih;exact absurd (by rfl) ih
    ·obtain⟨y,r,he⟩:=List.exists_cons_of_ne_nil he;rw[he]at ih ⊢;simp only[Xl,Qd]at ih ⊢;rw[vV];exact ih
theorem zjp{n:Nat}(h:n=0∨dig xs (n - 1)≠0)(hn:n<=xs.length)(hz:∀i,n<=i->dig xs i=0):xs.take n=zm (val xs):=by
 have e:val xs=val (xs.take n):=by
  rw[kU xs n]
  have:val (xs.drop n)=0:=by
   have key:∀k,val (xs.drop (n+k))=0∨k<=xs.length:=λk=>by
    by_cases hk:k<=xs.length
    ·exact .inr hk
    ·exact .inl (ki oM)
   have down:∀j,val (xs.drop (n+(xs.length - j)))=0:=by
    intro j
    induction j with
    | zero=>exact ki oM
    | succ j ih=>
     by_cases hj:j < xs.length
     ·rw[zG,hz _ oM,show n+(xs.length - (j+1))+1=n+(xs.length - j) by omega,ih]
     ·rw[show n+(xs.length - (j+1))=n+(xs.length - j) by omega];exact ih
   have:=down xs.length
   simpa using this
  rw[this];simp
 rw[e,zoF]
 by_cases hn0:n=0
 ·subst hn0;exact .inl rfl
 ·right
  rw[Xk,KU hn,zvH,if_pos oM];exact h.resolve_left hn0
theorem jN{n k:Nat}(h:n < 4294967296 ^ k):(zm n).length<=k:=by
 induction k generalizing n with
 | zero=>
   have:n=0:=by simpa using h
   subst this;rw[jr];simp
 | succ k ih=>
  by_cases h0:n=0
  ·subst h0;rw[jr];simp
  ·rw[zdn h0,Xl]
   have:n / 4294967296 < 4294967296 ^ k:=by
    rw[XQ dC];rwa [XR]at h
   have:=ih this;omega
theorem zcr{n k:Nat}(h:(zm n).length<=k):n < 4294967296 ^ k:=by
 have:=je (zm n);rw[zo]at this;exact Xq this (XH dC h)
theorem zJ(xs:List Dig):(zm (val xs)).length<=xs.length:=jN (je xs)
theorem yI{n:Nat}:zm n=[]↔n=0:=by
 constructor
 ·intro h;have:=zo n;rw[h]at this;exact this.symm
 ·rintro rfl;exact jr
theorem jB{n:Nat}:0 < (zm n).length↔n≠0:=by
 rw[Jr,Ne,yI]
theorem zmV{n:Nat}(h:n≠0):4294967296 ^ ((zm n).length - 1)<=n:=by
 rcases Qa n (4294967296 ^ ((zm n).length - 1)) with h1 | h1
 ·have:=jN h1;have:=jB.2 h;omega
 ·exact h1
theorem qr{m n:Nat}(h:m<=n):(zm m).length<=(zm n).length:=jN (KV h (zcr (Xh _)))
theorem zdo{xs ys:List Dig}{k:Nat}(h:∀i,k<=i->dig xs i=dig ys i):val (xs.drop k)=val (ys.drop k):=by
 have down:∀j,∀k',k<=k'->max xs.length ys.length<=k'+j->val (xs.drop k')=val (ys.drop k'):=by
  intro j
  induction j with
  | zero=>intro k' _ hk;rw[ki oM,ki oM]
  | succ j ih=>
   intro k' hk hj;rw[zG,zG ys,h k' hk,ih (k'+1) oM oM]
 exact down (max xs.length ys.length) k (Xh _) oM
theorem zlv{ys:List Dig}(h:∀i,dig xs i=dig ys i):val xs=val ys:=by
 have:=zdo (k:=0) (xs:=xs) (ys:=ys) (λi _=>h i)
 simpa using this
theorem zyt(xs:List Dig)(i:Nat):dig xs i=val xs / 4294967296 ^ i % 4294967296:=by
 have h1:=kU xs i;have h2:=qV xs i;have h3:=zG xs i;have h4:=yT xs i
 have e:val xs / 4294967296 ^ i=val (xs.drop i):=by
  rw[h1,JT,Qj (zdm i),Kd h2,XN]
 rw[e,h3];omega
theorem zjq(xs:List Dig)(i:Nat):val (xs.drop i)=val xs / 4294967296 ^ i:=by
 have h1:=kU xs i;have h2:=qV xs i;rw[h1,JT,Qj (zdm i),Kd h2,XN]
theorem zoG(xs:List Dig)(i:Nat):val (xs.take i)=val xs % 4294967296 ^ i:=by
 have h1:=kU xs i;have h2:=qV xs i;rw[h1,JG,Xu h2]
def dof(n:Nat):Dig:=⟨n % 4294967296,Kl _ dC⟩
theorem kC(n:Nat):(dof n).val=n % 4294967296:=rfl
def kL(n:Nat):Nat:=if n=0 then 0 else n.log2+1
theorem zdp(n:Nat):n < 2 ^ kL n:=by
 unfold kL;split
 ·subst_vars;decide
 ·exact Nat.lt_log2_self
theorem zbN{n:Nat}(h:n≠0):2 ^ (kL n - 1)<=n:=by
 unfold kL;rw[if_neg h];exact Nat.log2_self_le h
theorem zfR{n k:Nat}(h1:n < 2 ^ k)(h2:n≠0)(h3:2 ^ (k - 1)<=n):kL n=k:=by
 have a:=zdp n;have b:=zbN h2;have c:2 ^ (kL n - 1) < 2 ^ k:=KV b h1;have d:2 ^ (k - 1) < 2 ^ kL n:=KV h3 a;have c:=(Qp (by decide:1 < 2)).1 c;have d:=(Qp (by decide:1 < 2)).1 d;have:0 < kL n:=by unfold kL;rw[if_neg h2];omega
 have:k≠0:=by rintro rfl;simp at h1;exact h2 h1
 omega
theorem zqW:kL 0=0:=rfl
theorem zbO{n:Nat}:0 < kL n↔n≠0:=by
 unfold kL;split <;> omega
theorem zaY(k:Nat):4294967296 ^ k=2 ^ (32*k):=by rw[show 4294967296=2 ^ 32 by decide,← Nat.pow_mul]
theorem ztI{n:Nat}(h:2<=n):n.log2=(n / 2).log2+1:=by rw[Nat.log2_def,if_pos h]
theorem zqX{n:Nat}(h:n≠0):kL n=kL (n / 2)+1:=by
 unfold kL;rw[if_neg h]
 by_cases h1:n / 2=0
 ·rw[if_pos h1];have:n=1:=oM;subst this;rfl
 ·rw[if_neg h1,ztI oM]
theorem zbP(hn:dig xs (xs.length - 1)≠0):kL (val xs)=32*(xs.length - 1)+kL (dig xs (xs.length - 1)):=by
 have hl:0 < xs.length:=by
  rcases Kr xs.length with h | h
  ·rw[XJ.1 h]at hn;exact absurd rfl hn
  ·exact h
 have e1:=kU xs (xs.length - 1);have e2:=qV xs (xs.length - 1);have e3:=zG xs (xs.length - 1);rw[show xs.length - 1+1=xs.length by omega,ki (Xh _),Km,XN]at e3;rw[e3]at e1;generalize dig xs (xs.length - 1)=t at*;have p1:=zdp t;have p2:=zbN hn;rw[zaY]at e1 e2;have p0:0 < 2 ^ (32*(xs.length - 1)):=KQ dC;have np:0 < kL t:=zbO.2 hn;refine zfR ?_ ?_ ?_
 ·rw[X7];have:2 ^ (32*(xs.length - 1))*(t+1)<=2 ^ (32*(xs.length - 1))*2 ^ kL t:=Ka _ p1;rw[KC,QX]at this;omega
 ·have:2 ^ (32*(xs.length - 1))*1<=2 ^ (32*(xs.length - 1))*t:=Ka _ oM;omega
 ·rw[show 32*(xs.length - 1)+kL t - 1=32*(xs.length - 1)+(kL t - 1) by omega,X7];have:2 ^ (32*(xs.length - 1))*2 ^ (kL t - 1)<=2 ^ (32*(xs.length - 1))*t:=Ka _ p2;omega
theorem zdq{xs:List Dig}{N:Nat}(h:∀j,j < xs.length->dig xs j=N / 4294967296 ^ j % 4294967296):val xs=N % 4294967296 ^ xs.length:=by
 have key:∀i,i<=xs.length->val (xs.take i)=N % 4294967296 ^ i:=by
  intro i
  induction i with
  | zero=>intro _;rw[Q5,Nat.mod_one];rfl
  | succ i ih=>
   intro hi;rw[zU,ih oM,h i oM,XR,Nat.mod_mul]
 have:=key xs.length (Xh _)
 rwa [X9]at this
theorem zr5(xs:List Dig)(w s j:Nat)(hs:s < 32):val xs / 2 ^ (32*w+s) / 4294967296 ^ j % 4294967296=(dig xs (w+j+1)*4294967296+dig xs (w+j)) / 2 ^ s % 4294967296:=by
 have e:val xs / 2 ^ (32*w+s) / 4294967296 ^ j=val (xs.drop (w+j)) / 2 ^ s:=by
  rw[zjq,JV,JV];congr 1;rw[zaY,zaY,← X7,← X7];congr 1;omega
 rw[e,zG,zG];generalize val (xs.drop (w+j+1+1))=R;generalize dig xs (w+j+1)=x;generalize dig xs (w+j)=y;have hp:2 ^ s*2 ^ (32 - s)=4294967296:=by rw[← X7,show s+(32 - s)=32 by omega]
 have:y+4294967296*(x+4294967296*R)=(x*4294967296+y)+2 ^ s*(2 ^ (32 - s)*4294967296*R):=by
  rw[show 2 ^ s*(2 ^ (32 - s)*4294967296*R)=(2 ^ s*2 ^ (32 - s))*4294967296*R by simp only[KA],hp];omega
 rw[this,Nat.add_mul_div_left _ _ (KQ dC)];rw[show 2 ^ (32 - s)*4294967296*R=4294967296*(2 ^ (32 - s)*R) by rw[Ks (2 ^ (32 - s)),KA],JG]
end
open Go.Proofs
def dgE(d:Dig):List SV:=[.val (.int .u32 (d.val:Int))]
abbrev u32(n:Int):SV:=.val (.int .u32 n)
abbrev u64(n:Int):SV:=.val (.int .u64 n)
abbrev qy(xs:List Dig):Mem:=.arr 141 dgE 1 xs
theorem qT(xs:List Dig):zhG (qy xs):=λ_ _=>rfl
theorem qJ(xs:List Dig):zih (qy xs):=λ_ _=>rfl
theorem zjr(e:Int):IntKind.u32.wrap e=e % 4294967296:=rfl
theorem yp(e:Int):IntKind.u64.wrap e=e % 18446744073709551616:=rfl
theorem zgZ(d:Dig):[d].length=1/\1<=281474976710656/\1*1<=16777216/\0 < 1/\∀x∈[d],(dgE x).length=1/\ya (dgE x)=true/\ym.flats (dgE x)=true:=
 ⟨rfl,dC,dC,dC,λ_ _=>⟨rfl,rfl,rfl⟩⟩
theorem zeK:([]:List Dig).length=0/\0<=281474976710656/\0*1<=16777216/\0 < 1/\∀x∈([]:List Dig),(dgE x).length=1/\ya (dgE x)=true/\ym.flats (dgE x)=true:=
 ⟨rfl,dC,dC,dC,λ_ _=>⟨rfl,rfl,rfl⟩⟩
theorem zg0{xs ys:List Dig}(h:xs.length+ys.length<=2000000000):((xs.length+ys.length:Int)*(4:Nat)<=140737488355328/\xs.length+ys.length<=281474976710656/\0 < 1/\∀x∈ys,(dgE x).length=1):=
 ⟨oM,oM,dC,λ_ _=>rfl⟩
def zfS(a b:Nat):Int:=if a < b then -1 else if b < a then 1 else 0
theorem zd9{a b:Nat}:zfS a b < 0↔a < b:=by
 unfold zfS;split
 ·simp_all
 ·split <;> simp_all
theorem zr6{a b:Nat}:0 < zfS a b↔b < a:=by
 unfold zfS;split
 ·simp;omega
 ·split <;> simp_all
theorem jC(a:List Dig)(ha:a.length<=1000000000):CG0 165 [.sl dgE a] [] (.own 0) [(0,qy (zm (val a)))]:=by
 refine qS tok mix Tryz.func165 rfl rfl rfl ?_;intro hl0;refine⟨Nat,λn=>⟨[(3,i64 n),(0,.sl dgE a)],[],0,34,0⟩,λn=>n<=a.length/\∀i,n<=i->dig a i=0,λn=>n,a.length,?_,?_,?_⟩
 ·exact⟨Xh _,λi h=>zay h⟩
 ·exact zE []
 rintro n ⟨h1,h2⟩
 have post:∀(n:Nat),n<=a.length->(∀i,n<=i->dig a i=0)->(n=0∨dig a (n - 1)≠0)->zm (val a)=a.take n:=λn h1 h2 h3=>(zjp h3 h1 h2).symm
 refine⟨λh3=>?_,λh3=>?_⟩
 ·refine Ar.o<|Ob.o ?_;intro x hx;refine⟨λh4=>?_,λh4=>?_⟩
  ·refine Ar.o<|⟨n - 1,⟨oM,λi hi=>?_⟩,jG [] ⟨congrArg (λn=>some (i64 n)) oM,rfl,trivial⟩ trivial,by dsimp only;omega⟩
   by_cases e:i=n - 1
   ·subst e;rw[show((n:Int) - 1).toNat=n - 1 by omega]at hx;rw[zW hx];omega
   ·exact h2 i oM
  ·have h5:dig a (n - 1)≠0:=by
    rw[show((n:Int) - 1).toNat=n - 1 by omega]at hx;rw[zW hx];omega
   rw[post n h1 h2 (.inr h5)];refine⟨Dig,dgE,[],rfl,Ob.mk zeK ?_⟩;refine⟨Nat,λi=>⟨[(5,i64 i),(3,i64 n),(4,.own 0),(0,.sl dgE a)],[(0,qy (a.take i))],1,34,0⟩,λi=>i<=n,λi=>n - i,0,?_,?_,?_⟩
   ·exact Xe _
   ·exact zf [0]
   rintro i hi
   have hi:i<=n:=hi;refine⟨λk1=>?_,λk1=>?_⟩
   ·refine Ob.o ?_;intro y hy;refine⟨Dig,dgE,[y],rfl,Ob.mk (zgZ y) ?_⟩;refine⟨_,rfl,Ob.mk (zg0 (by simp;omega)) ?_⟩;refine Ar.o ?_
    refine⟨i+1,by show i+1<=n;omega,qw [(0,some 2)] rfl rfl rfl ⟨rfl,rfl,rfl,rfl,trivial⟩
     ⟨congrArg (λl=>some (qy l)) (by rw[Xm,show a[i]? =some y from hy];rfl),trivial⟩,by dsimp only;omega⟩
   ·have hin:i=n:=by omega
    subst hin;exact⟨some 0,.own _ rfl,rfl,λ_ _=>rfl⟩
 ·have h5:n=0:=by omega
  rw[post n h1 h2 (.inl h5)];refine⟨Dig,dgE,[],rfl,Ob.mk zeK ?_⟩;refine⟨Nat,λi=>⟨[(5,i64 i),(3,i64 n),(4,.own 0),(0,.sl dgE a)],[(0,qy (a.take i))],1,34,0⟩,λi=>i<=n,λi=>n - i,0,?_,?_,?_⟩
  ·exact Xe _
  ·exact zf [0]
  rintro i hi
  have hi:i<=n:=hi;refine⟨λk1=>?_,λk1=>?_⟩
  ·refine Ob.o ?_;intro y hy;refine⟨Dig,dgE,[y],rfl,Ob.mk (zgZ y) ?_⟩;refine⟨_,rfl,Ob.mk (zg0 (by simp;omega)) ?_⟩;refine Ar.o ?_
   refine⟨i+1,by show i+1<=n;omega,qw [(0,some 2)] rfl rfl rfl ⟨rfl,rfl,rfl,rfl,trivial⟩
    ⟨congrArg (λl=>some (qy l)) (by rw[Xm,show a[i]? =some y from hy];rfl),trivial⟩,by dsimp only;omega⟩
  ·have hin:i=n:=by omega
   subst hin;exact⟨some 0,.own _ rfl,rfl,λ_ _=>rfl⟩
theorem yJ(a:List Dig)(i:Int)(hi:0<=i):CG0 283 [.sl dgE a,i64 i] [] (u64 (dig a i.toNat)) []:=by
 refine zc Tryz.func283 ?_;refine⟨λh=>?_,λh=>?_⟩
 ·omega
 intro hl;refine⟨λh2=>?_,λh2=>?_⟩
 ·exact zi (by rw[zay oM];rfl)
 ·refine Ob.o ?_;intro x hx;have:=x.isLt;exact Ar.o<|zi (by rw[zW hx])
theorem zaZ{n:Nat}{e:Int}(h:e=n):((dof n).val:Int)=IntKind.u32.wrap e:=by rw[zjr,kC,h];omega
theorem zfT{a b:List Dig}{j:Nat}(h:∀i,j+1<=i->dig a i=dig b i)(hl:dig a j < dig b j):val a < val b:=by
 have e1:=kU a j;have e2:=kU b j;have e3:=qV a j;have e4:=zG a j;have e5:=zG b j;have e6:=zdo h;have:val (a.drop j)+1<=val (b.drop j):=oM;have:=Ka (4294967296 ^ j) this;rw[KC]at this;omega
theorem zvI(a b:List Dig)(ha:a.length<=1000000000)(hb:b.length<=1000000000):
  CG0 284 [.sl dgE a,.sl dgE b] [] (i64 (zfS (val a) (val b))) []:=by
 refine zc Tryz.func284 ?_;intro hl1 hl2;refine Ar.fit (by simp only[zcX];omega)<|⟨Nat,λj=>⟨[(5,i64 ((j:Int) - 1)),(0,.sl dgE a),(1,.sl dgE b)],[],0,30,0⟩,λj=>j<=1000000000/\∀i,j<=i->dig a i=dig b i,λj=>j,max a.length b.length,?_,?_,?_⟩
 ·exact⟨oM,λi hi=>by rw[zay oM,zay oM]⟩
 ·exact jG [] ⟨congrArg (λn=>some (i64 n)) (by simp only[zcX];omega),rfl,rfl,trivial⟩ trivial
 rintro j ⟨h1,h2⟩
 refine⟨λh3=>?_,λh3=>?_⟩
 ·have e:((j:Int) - 1).toNat=j - 1:=by omega
  have h2':∀i,j - 1+1<=i->dig a i=dig b i:=λi hi=>h2 i oM
  refine zb.t (yJ a _ oM)<|zb.t (yJ b _ oM)<|⟨λh4=>?_,λh4=>?_⟩
  ·have:=zfT h2' (by rw[e]at h4;omega);exact zi (by rw[zfS,if_pos this])
  refine zb.t (yJ a _ oM)<|zb.t (yJ b _ oM)<|⟨λh5=>?_,λh5=>?_⟩
  ·have:=zfT (λi hi=>(h2' i hi).symm) (by rw[e]at h5;omega);exact zi (by rw[zfS,if_neg oM,if_pos this])
  refine Ar.o<|⟨j - 1,⟨oM,λi hi=>?_⟩,jG [] ⟨congrArg (λn=>some (i64 n)) oM,rfl,rfl,trivial⟩ trivial,by dsimp only;omega⟩
  by_cases hij:i=j - 1
  ·subst hij;rw[e]at h4 h5;omega
  ·exact h2 i oM
 ·have hj:j=0:=by omega
  subst hj;have:=zlv λi=>h2 i (Xe _)
  exact zi (by rw[zfS,if_neg oM,if_neg oM])
theorem zAH(a b:List Dig)(ha:a.length<=900000000)(hb:b.length<=900000000):
  CG0 224 [.sl dgE a,.sl dgE b] [] (.own 0) [(0,qy (zm (val a+val b)))]:=by
 refine qS tok mix Tryz.func224 rfl rfl rfl<|⟨Dig,dgE,[],rfl,Ob.mk zeK ?_⟩
 refine⟨Nat×List Dig×Nat,λq=>⟨[(7,i64 q.1),(6,u64 q.2.2),(5,.own 0),(0,.sl dgE a),(1,.sl dgE b)],[(0,qy q.2.1)],1,42,0⟩,
  λq=>q.1<=max a.length b.length/\q.2.1.length=q.1/\q.2.2<=1/\val q.2.1+4294967296 ^ q.1*q.2.2=val (a.take q.1)+val (b.take q.1),λq=>max a.length b.length - q.1,(0,[],0),?_,?_,?_⟩
 ·exact⟨Xe _,rfl,Xe _,rfl⟩
 ·exact zf [0]
 rintro⟨i,out,c⟩ ⟨h1,h2,h3,h4⟩
 dsimp only at h1 h2 h3 h4;intro hl1 hl2;refine⟨λh5=>?_,λh5=>?_⟩
 ·simp only[zcX]at h5;have d1:=yT a i;have d2:=yT b i;refine zb.t (yJ a _ oM)<|zb.t (yJ b _ oM) ?_;simp only[XX];(iterate 2 refine Ar.o ?_);refine Ar.wrap<|⟨Dig,dgE,[dof (dig a i+dig b i+c)],congrArg (λn=>[u32 n]) (zaZ oM),Ob.mk (zgZ _) ?_⟩;refine⟨_,rfl,Ob.mk (zg0 (by simp;omega)) ?_⟩;refine Ob.o1<|Ar.o ?_
  refine⟨(i+1,out++[dof (dig a i+dig b i+c)],(dig a i+dig b i+c) / 4294967296),⟨by dsimp only;omega,by simp[h2],by dsimp only;omega,?_⟩,
   zL [2] ⟨rfl,congrArg (λn=>some (u64 n)) (by dsimp only;omega),rfl,rfl,rfl,trivial⟩ ⟨rfl,trivial⟩,by dsimp only;omega⟩
  dsimp only;rw[vm,h2,kC,zU,zU,XR];have e:=X3 (dig a i+dig b i+c) 4294967296;generalize (dig a i+dig b i+c) / 4294967296=x at*;generalize (dig a i+dig b i+c) % 4294967296=y at*;generalize 4294967296 ^ i=p at*
  grind
 ·simp only[zcX]at h5;have hi:i=max a.length b.length:=oM;refine Ar.wrap<|⟨Dig,dgE,[dof c],congrArg (λn=>[u32 n]) (zaZ rfl),Ob.mk (zgZ _) ?_⟩;refine⟨_,rfl,Ob.mk (zg0 (by simp;omega)) ?_⟩;refine zb.fresh _ _ (jC _ (by simp;omega)) rfl (qT _) (.inr (qJ _))<|⟨some 3,.own _ rfl,?_,λ_ _=>rfl⟩
  have e:val (out++[dof c])=val a+val b:=by
   rw[vm,h2,kC,Xu oM,h4,kX oM,kX oM]
  rw[← e];rfl
theorem uK(a:List Dig)(ha:a.length<=1000000000):CG0 165 [.sl dgE a] [] (.sl dgE (zm (val a))) []:=
 (jC a ha).plain rfl
theorem zio(a b:List Dig)(ha:a.length<=900000000)(hb:b.length<=900000000):
  CG0 224 [.sl dgE a,.sl dgE b] [] (.sl dgE (zm (val a+val b))) []:=(zAH a b ha hb).plain rfl
theorem zvJ(a b:List Dig)(ha:a.length<=900000000)(hb:b.length<=900000000):
  CG0 225 [.sl dgE a,.sl dgE b] [] (.tup [.own 0,pr (val b<=val a)]) [(0,qy (zm (val a - val b)))]:=by
 refine qS tok mix Tryz.func225 rfl rfl rfl<|zb.t (zvI a b oM oM)<|⟨λh=>?_,λh=>?_⟩
 ·have hlt:val a < val b:=zd9.1 h;refine⟨none,zjj (.cons (.nil rfl) (.cons (.le _ _ (zd oM) rfl) .nil)),?_⟩;show zm (val a - val b)=[];rw[Yb oM];exact jr
 have hle:val b<=val a:=QH λh'=>h (zd9.2 h')
 refine⟨Dig,dgE,[],rfl,Ob.mk zeK ?_⟩
 refine⟨Nat×List Dig×Nat,λ⟨i,out,c⟩=>⟨[(8,i64 i),(7,u64 c),(6,.own 0),(0,.sl dgE a),(1,.sl dgE b)],[(0,qy out)],1,41,0⟩,
  λq=>q.1<=a.length/\q.2.1.length=q.1/\q.2.2<=1/\val q.2.1+val (b.take q.1)=val (a.take q.1)+4294967296 ^ q.1*q.2.2,λq=>a.length - q.1,(0,[],0),?_,?_,?_⟩
 ·exact⟨Xe _,rfl,Xe _,rfl⟩
 ·exact zf [0]
 rintro⟨i,out,c⟩ ⟨h1,h2,h3,h4⟩
 dsimp only at h1 h2 h3 h4;intro hl1;refine⟨λh5=>?_,λh5=>?_⟩
 ·have d1:=yT a i;have d2:=yT b i;refine zb.t (yJ a _ oM) ?_;simp only[XX];refine Ar.o<|zb.t (yJ b _ oM) ?_;simp only[XX];(iterate 2 refine Ar.o ?_);refine Ar.wrap<|⟨Dig,dgE,[dof (4294967296+dig a i - dig b i - c)],congrArg (λn=>[u32 n]) (zaZ oM),Ob.mk (zgZ _) ?_⟩;refine⟨_,rfl,Ob.mk (zg0 (by simp;omega)) ?_⟩;refine Ob.o1<|Ar.fit (by simp only[Int.reducePow];omega)<|Ar.o ?_
  refine⟨(i+1,out++[dof (4294967296+dig a i - dig b i - c)],1 - (4294967296+dig a i - dig b i - c) / 4294967296),⟨by dsimp only;omega,by simp[h2],by dsimp only;omega,?_⟩,
   zL [2] ⟨rfl,congrArg (λn=>some (u64 n)) (by dsimp only;omega),rfl,rfl,rfl,trivial⟩ ⟨rfl,trivial⟩,by dsimp only;omega⟩
  dsimp only;rw[vm,h2,kC,zU,zU,XR];have e:(4294967296+dig a i - dig b i - c) % 4294967296+dig b i+c=dig a i+4294967296*(1 - (4294967296+dig a i - dig b i - c) / 4294967296):=oM;generalize 1 - (4294967296+dig a i - dig b i - c) / 4294967296=x at*;generalize (4294967296+dig a i - dig b i - c) % 4294967296=y at*;generalize 4294967296 ^ i=p at*
  have e2:p*y+p*dig b i+p*c=p*dig a i+p*4294967296*x:=by
   rw[← KC,← KC,e,KC,KA]
  omega
 ·have hi:i=a.length:=by omega
  refine zb.fresh _ _ (jC _ oM) rfl (qT _) (.inr (qJ _))<|⟨some 1,zjj (.cons (.own _ rfl) (.cons (.le _ _ (zT hle) rfl) .nil)),?_,λ_ _=>rfl⟩
  have e:val out=val a - val b:=by
   subst hi;have e0:val (a.take a.length)=val a:=kX (Xh _);rw[e0]at h4;have e1:=kU b a.length;have e2:=je a
   have e3:val (b.drop a.length)=0:=by
    rcases Kr (val (b.drop a.length)) with h | h
    ·exact h
    ·have:=Ka (4294967296 ^ a.length) h;omega
   have e4:=je out;rw[h2]at e4;rw[e3]at e1;have:c=0∨c=1:=oM
   rcases this with rfl | rfl <;> omega
  rw[← e];rfl
theorem zmW(a b:List Dig)(ha:a.length<=900000000)(hb:b.length<=900000000):
  CG0 225 [.sl dgE a,.sl dgE b] [] (.tup [.sl dgE (zm (val a - val b)),pr (val b<=val a)]) []:=(zvJ a b ha hb).plain rfl
theorem zvK{x y c:Nat}(hx:x < 4294967296)(hy:y < 4294967296)(hc:c < 4294967296):x*y+c<=18446744069414584320:=by
 have:x*y<=4294967295*4294967295:=Qe oM oM;omega
theorem zea{x y:Nat}(hx:x < 4294967296)(hy:y < 4294967296):x*y<=18446744065119617025:=by
 have:x*y<=4294967295*4294967295:=Qe oM oM;omega
theorem zoH{p q x y z c u v w o o0 r:Nat}(h4:o+p*q*c=o0+p*(x*w))(hs:r+p*q*z=o+p*q*v)(e:4294967296*u+v=x*y+z+c):
  r+p*q*4294967296*u=o0+p*(x*(w+q*y)):=by grind
theorem zvL(a:List Dig)(d:Nat)(ha:a.length<=900000000)(hd:d < 4294967296):
  CG0 333 [.sl dgE a,u64 d] [] (.own 0) [(0,qy (zm (val a*d)))]:=by
 refine qS tok mix Tryz.func333 rfl rfl rfl<|⟨Dig,dgE,[],rfl,Ob.mk zeK ?_⟩
 refine⟨Nat×List Dig×Nat,λ⟨i,out,c⟩=>⟨[(7,i64 i),(6,u64 c),(5,.own 0),(0,.sl dgE a),(1,u64 d)],[(0,qy out)],1,39,0⟩,
  λq=>q.1<=a.length/\q.2.1.length=q.1/\q.2.2 < 4294967296/\val q.2.1+4294967296 ^ q.1*q.2.2=val (a.take q.1)*d,λq=>a.length - q.1,(0,[],0),?_,?_,?_⟩
 ·exact⟨Xe _,rfl,dC,by simp[val]⟩
 ·exact zf [0]
 rintro⟨i,out,c⟩ ⟨h1,h2,h3,h4⟩
 dsimp only at h1 h2 h3 h4;intro hl1;refine⟨λh5=>?_,λh5=>?_⟩
 ·refine Ob.o ?_;intro x hx;have hx:a[i]? =some x:=hx;have dx:=zW hx;have hm:=zvK x.isLt hd h3;have hm0:=zea x.isLt hd;have hxl:=x.isLt;(iterate 3 refine Ar.o ?_);refine Ar.wrap<|⟨Dig,dgE,[dof (x.val*d+c)],congrArg (λn=>[u32 n]) (zaZ oM),Ob.mk (zgZ _) ?_⟩;refine⟨_,rfl,Ob.mk (zg0 (by simp;omega)) ?_⟩;refine Ob.o1<|Ar.o ?_
  refine⟨(i+1,out++[dof (x.val*d+c)],(x.val*d+c) / 4294967296),⟨by dsimp only;omega,by simp[h2],by dsimp only;omega,?_⟩,
   zL [2] ⟨rfl,congrArg (λn=>some (u64 n)) (by dsimp only;omega),rfl,rfl,rfl,trivial⟩ ⟨rfl,trivial⟩,by dsimp only;omega⟩
  dsimp only;rw[vm,h2,kC,zU,XR,dx];have e:=X3 (x.val*d+c) 4294967296;generalize (x.val*d+c) / 4294967296=u at*;generalize (x.val*d+c) % 4294967296=v at*;generalize 4294967296 ^ i=p at*;generalize x.val=x at*;generalize val (a.take i)=w at*;clear hm hm0
  grind
 ·have hi:i=a.length:=by omega
  refine Ar.wrap<|⟨Dig,dgE,[dof c],congrArg (λn=>[u32 n]) (zaZ rfl),Ob.mk (zgZ _) ?_⟩;refine⟨_,rfl,Ob.mk (zg0 (by simp;omega)) ?_⟩;refine zb.fresh _ _ (jC _ (by simp;omega)) rfl (qT _) (.inr (qJ _))<|⟨some 3,.own _ rfl,?_,λ_ _=>rfl⟩
  have e:val (out++[dof c])=val a*d:=by
   rw[vm,h2,kC,Xu oM,h4,kX oM]
  rw[← e];rfl
theorem ztJ(a:List Dig)(d:Nat)(ha:a.length<=900000000)(hd:d < 4294967296):
  CG0 333 [.sl dgE a,u64 d] [] (.sl dgE (zm (val a*d))) []:=(zvL a d ha hd).plain rfl
theorem zAI(a b:List Dig)(ha:a.length<=400000000)(hb:b.length<=400000000):
  CG0 102 [.sl dgE a,.sl dgE b] [] (.own 0) [(0,qy (zm (val a*val b)))]:=by
 refine qS tok mix Tryz.func102 rfl rfl rfl ?_;intro hl1 hl2;(iterate 2 refine Ar.o ?_);refine⟨Dig,dgE,0,rfl,Ob.o6 ?_⟩
 refine⟨Nat×List Dig,λ⟨i,out⟩=>⟨[(6,i64 i),(5,.own 0),(0,.sl dgE a),(1,.sl dgE b)],[(0,qy out)],1,69,0⟩,
  λq=>q.1<=a.length/\q.2.length=a.length+b.length+1/\val q.2=val (a.take q.1)*val b/\∀j,q.1+b.length<=j->dig q.2 j=0,λq=>a.length - q.1,(0,List.replicate (a.length+b.length+1) 0),?_,?_,?_⟩
 ·exact⟨Xe _,by simp,by simp[zaG,val],λj _=>yR _ _⟩
 ·exact zC [0] ⟨congrArg (λn=>some (qy (List.replicate n 0))) oM,trivial⟩
 rintro⟨i,out0⟩ ⟨h1,h2,h3,h4⟩
 dsimp only at h1 h2 h3 h4;intro hl3;refine⟨λh5=>?_,λh5=>?_⟩
 ·refine⟨Nat×List Dig×Nat,λ⟨k,out,c⟩=>⟨[(8,i64 k),(7,u64 c),(6,i64 i),(5,.own 0),(0,.sl dgE a),(1,.sl dgE b)],[(0,qy out)],1,69,0⟩,
   λq=>q.1<=b.length/\q.2.1.length=a.length+b.length+1/\q.2.2 < 4294967296/\val q.2.1+4294967296 ^ (i+q.1)*q.2.2=val out0+4294967296 ^ i*(dig a i*val (b.take q.1))/\∀j,i+b.length<=j->dig q.2.1 j=0,λq=>b.length - q.1,(0,out0,0),?_,?_,?_⟩
  ·exact⟨Xe _,h2,by dsimp only;omega,by simp[val],h4⟩
  ·exact zf [0]
  rintro⟨k,out,c⟩ ⟨g1,g2,g3,g4,g5⟩
  dsimp only at g1 g2 g3 g4 g5;intro hl4;refine⟨λg6=>?_,λg6=>?_⟩
  ·refine Dr.k<|Ob.o ?_;intro x hx;have hx:a[i]? =some x:=hx;have dx:=zW hx;have hxl:=x.isLt;refine Ar.o<|Ob.o ?_;intro y hy;have hy:b[k]? =some y:=hy;have dy:=zW hy;have hyl:=y.isLt;refine Ar.o ?_;have hm0:=zea hxl hyl;(iterate 2 refine Ar.o ?_);refine Ob.o<|Ob.o ?_;intro z hz;rw[show((i:Int)+k).toNat=i+k by omega]at hz;have dz:=zW hz;have hzl:=z.isLt;(iterate 4 refine Ar.o ?_);refine Ar.wrap<|Ob.o<|Ob.o ?_;intro z' hz'
   refine⟨dof (x.val*y.val+z.val+c),congrArg (λn=>[u32 n]) (zaZ oM),?_⟩;refine Ob.o1<|Ar.o ?_
   refine⟨(k+1,out.set (i+k) (dof (x.val*y.val+z.val+c)),(x.val*y.val+z.val+c) / 4294967296),⟨by dsimp only;omega,by simp[g2],by dsimp only;omega,?_,?_⟩,
    zL [0] ⟨rfl,congrArg (λn=>some (u64 n)) (by dsimp only;omega),rfl,rfl,rfl,rfl,trivial⟩ ⟨congrArg (λn=>some (qy (out.set n _))) oM,trivial⟩,by dsimp only;omega⟩
   ·dsimp only;have hs:=vX out (i+k) (dof (x.val*y.val+z.val+c)) oM;rw[kC,dz]at hs;rw[zU,dy,← KJ i k 1,XR];rw[dx]at g4 ⊢;have e:=X3 (x.val*y.val+z.val+c) 4294967296;rw[X7]at g4 hs ⊢;exact zoH g4 hs e
   ·intro j hj;dsimp only;rw[jR,if_neg oM];exact g5 j hj
  ·have hk:k=b.length:=by omega
   intro hl5;refine Ar.o<|Ar.wrap<|Ob.o<|Ob.o ?_;intro z' hz';refine⟨dof c,congrArg (λn=>[u32 n]) (zaZ rfl),?_⟩;refine Ar.o ?_
   refine⟨(i+1,out.set (i+b.length) (dof c)),⟨by dsimp only;omega,by simp[g2],?_,?_⟩,
    zC [0] ⟨congrArg (λn=>some (qy (out.set n _))) oM,trivial⟩,by dsimp only;omega⟩
   ·dsimp only;have hs:=vX out (i+b.length) (dof c) oM;rw[kC,g5 _ (Xh _),Xu g3]at hs;rw[hk,kX (Xh _),h3]at g4;rw[zU];generalize val (out.set (i+b.length) _)=r at*;generalize 4294967296 ^ i=p at*;generalize 4294967296 ^ (i+b.length)=q at*;generalize val (a.take i)=w at*;generalize dig a i=x at*;generalize val out=o at*;clear h4 g5
    grind
   ·intro j hj;dsimp only;rw[jR,if_neg oM];exact g5 j oM
 ·have hi:i=a.length:=by omega
  refine zb.fresh _ _ (jC _ oM) rfl (qT _) (.inr (qJ _))<|⟨some 1,.own _ rfl,?_,λ_ _=>rfl⟩;rw[hi,kX (Xh _)]at h3;rw[← h3];rfl
theorem zyu(a b:List Dig)(ha:a.length<=400000000)(hb:b.length<=400000000):
  CG0 102 [.sl dgE a,.sl dgE b] [] (.sl dgE (zm (val a*val b))) []:=(zAI a b ha hb).plain rfl
theorem zfU(a:List Dig):kL (val a)<=32*a.length:=by
 by_cases h:val a=0
 ·rw[h,zqW];omega
 ·have h1:=zbN h;have h2:=je a;rw[zaY]at h2;have:=(Qp (by decide:1 < 2)).1 (KV h1 h2);omega
theorem zlw(a:List Dig)(ha:a.length<=900000000):CG0 280 [.sl dgE a] [] (i64 (kL (val a))) []:=by
 refine zc Tryz.func280 ?_;refine zb.t (uK _ oM) ?_;intro hl;have hlen:=zJ a;refine⟨λh=>?_,λh=>?_⟩
 ·have:zm (val a)=[]:=XJ.1 oM;exact zi (by rw[yI.1 this];rfl)
 have hne:zm (val a)≠[]:=λe=>h (by rw[e];rfl)
 have hn:=(vJ (val a)).resolve_left hne;have htop:=zbP hn;rw[zo]at htop;intro hl2;(iterate 2 refine Ar.o ?_);intro hl3;refine Ar.o<|Ob.o ?_;intro x hx;rw[show(((zm (val a)).length:Int) - 1).toNat=(zm (val a)).length - 1 by omega]at hx;have dx:=zW hx;have hxl:=x.isLt;have hb:=zfU a;refine⟨Nat×Nat,λ⟨n,t⟩=>⟨[(4,i64 n),(5,u32 t)],[],0,28,0⟩,λq=>q.2 < 4294967296/\q.1+kL q.2=kL (val a),λq=>q.2,(32*((zm (val a)).length - 1),x.val),?_,?_,?_⟩
 ·exact⟨hxl,by dsimp only;rw[htop,dx]⟩
 ·exact jG [] ⟨congrArg (λn=>some (i64 n)) oM,rfl,trivial⟩ trivial
 rintro⟨n,t⟩ ⟨g1,g2⟩
 dsimp only at g1 g2;refine⟨λg3=>?_,λg3=>?_⟩
 ·have hh:=zqX (n:=t) oM;exact Ar.o<|Dv.pos ⟨oM,oM,by show _<=(4294967295:Int);omega⟩<|⟨(n+1,t / 2),⟨by dsimp only;omega,by dsimp only;omega⟩,jG [] ⟨rfl,congrArg (λn=>some (u32 n)) oM,trivial⟩ trivial,by dsimp only;omega⟩
 ·have:t=0:=by omega
  subst this;exact zi (by rw[← g2];rfl)
theorem zyv{p s x c u v w o M:Nat}(h4:o+p*M*c=p*(s*w))(e:4294967296*u+v=x*s+c):
  o+p*M*v+p*(M*4294967296)*u=p*(s*(w+M*x)):=by grind
theorem zz2(a:List Dig)(n:Nat)(ha:a.length<=800000000)(hn:n<=4096):
  CG0 332 [.sl dgE a,i64 n] [] (.own 0) [(0,qy (zm (val a*2 ^ n)))]:=by
 refine qS tok mix Tryz.func332 rfl rfl rfl ?_;have hs0:2 ^ (n % 32)<=2 ^ 31:=XH dC oM;have hs1:0 < 2 ^ (n % 32):=KQ dC;generalize hs:2 ^ (n % 32)=s at*;refine Dv.pos ⟨oM,oM,by show _<=(9223372036854775807:Int);omega⟩<|⟨Dig,dgE,0,rfl,Ob.o6 ?_⟩
 refine⟨Nat×List Dig×Nat,λ⟨i,out,c⟩=>⟨[(7,i64 i),(6,u64 c),(5,.own 0),(0,.sl dgE a),(1,i64 n)],[(0,qy out)],1,43,0⟩,
  λq=>q.1<=a.length/\q.2.1.length=n / 32+q.1/\q.2.2 < s/\val q.2.1+4294967296 ^ (n / 32)*4294967296 ^ q.1*q.2.2=4294967296 ^ (n / 32)*(s*val (a.take q.1)),λq=>a.length - q.1,(0,List.replicate (n / 32) 0,0),?_,?_,?_⟩
 ·exact⟨Xe _,by simp,hs1,by simp[zaG,val]⟩
 ·exact zC [0] ⟨congrArg (λn=>some (qy (List.replicate n 0))) oM,trivial⟩
 rintro⟨i,out,c⟩ ⟨h1,h2,h3,h4⟩
 dsimp only at h1 h2 h3 h4;intro hl1;refine⟨λh5=>?_,λh5=>?_⟩
 ·refine Ob.o ?_;intro x hx;have hx:a[i]? =some x:=hx;have dx:=zW hx;have hxl:=x.isLt;refine Ar.o<|Dv.pos ⟨oM,oM⟩<|Ar.o<|Ob.o11 ?_;have hm:x.val*s<=4294967295*2 ^ 31:=Qe oM hs0
  have hm2:(x.val:Int)*2 ^ ((n:Int) % 32).toNat=((x.val*s:Nat):Int):=by
   rw[← hs,show((n:Int) % 32).toNat=n % 32 by omega];simp
  have hm3:x.val*s+c < 4294967296*s:=by
   have:x.val*s<=4294967295*s:=Xp _ oM;omega
  refine Ar.fit (by rw[hm2];omega)<|Ar.fit (by rw[hm2];omega)<|Ar.wrap<|⟨Dig,dgE,[dof (x.val*s+c)],congrArg (λn=>[u32 n]) (zaZ (by rw[hm2];omega)),Ob.mk (zgZ _) ?_⟩;refine⟨_,rfl,Ob.mk (zg0 (by simp;omega)) ?_⟩;refine Ob.o1<|Ar.o ?_
  refine⟨(i+1,out++[dof (x.val*s+c)],(x.val*s+c) / 4294967296),⟨by dsimp only;omega,by simp[h2];omega,by dsimp only;omega,?_⟩,
   zL [2] ⟨rfl,congrArg (λn=>some (u64 n)) (by rw[hm2];dsimp only;omega),rfl,rfl,rfl,trivial⟩ ⟨rfl,trivial⟩,by dsimp only;omega⟩
  dsimp only;rw[vm,h2,kC,zU,dx,XR,X7];exact zyv h4 (X3 (x.val*s+c) 4294967296)
 ·have hi:i=a.length:=by omega
  refine Ar.wrap<|⟨Dig,dgE,[dof c],congrArg (λn=>[u32 n]) (zaZ rfl),Ob.mk (zgZ _) ?_⟩;refine⟨_,rfl,Ob.mk (zg0 (by simp;omega)) ?_⟩;refine zb.fresh _ _ (jC _ (by simp;omega)) rfl (qT _) (.inr (qJ _))<|⟨some 3,.own _ rfl,?_,λ_ _=>rfl⟩
  have e:val (out++[dof c])=val a*2 ^ n:=by
   rw[vm,h2,kC,Xu oM,X7,h4,kX oM,← hs,zaY];rw[← KA,← X7,show 32*(n / 32)+n % 32=n by omega,Ks]
  rw[← e];rfl
theorem zAJ(a:List Dig)(n:Nat)(ha:a.length<=800000000)(hn:n<=4096):
  CG0 281 [.sl dgE a,i64 n] [] (.own 0) [(0,qy (zm (val a*2 ^ n)))]:=by
 refine qS tok mix Tryz.func281 rfl rfl rfl<|Br.mk (λh=>?_) (λh=>absurd oM h);have e:zbA (n:Int) [4096]=n:=by simp only[zbA];omega
 exact zb.fresh _ _ (show CG0 _ [.sl dgE a,i64 (zbA (n:Int) [4096])] [] (.own 0) [(0,qy (zm (val a*2 ^ n)))] by rw[e];exact zz2 a n ha hn) rfl (qT _) (.inr (qJ _))<|⟨some 0,.own _ rfl,rfl,λ_ _=>rfl⟩
theorem zAK(a:List Dig)(n:Nat)(ha:a.length<=800000000)(hn:n<=1000000000000):
  CG0 281 [.sl dgE a,i64 (-(n:Int))] [] (.own 0) [(0,qy (zm (val a / 2 ^ n)))]:=by
 refine qS tok mix Tryz.func281 rfl rfl rfl<|Br.mk (λh=>?_) (λh=>?_)
 ·have hn0:n=0:=by omega
  subst hn0
  refine zb.fresh _ _ (show CG0 _ [.sl dgE a,i64 (zbA (-((0:Nat):Int)) [4096])] [] (.own 0) [(0,qy (zm (val a / 2 ^ 0)))] by
   have:=zz2 a 0 ha oM;rw[show zbA (-((0:Nat):Int)) [4096]=0 by decide,Q5,Nat.div_one];rw[Q5,QX]at this
   exact this) rfl (qT _) (.inr (qJ _)) ?_
  exact⟨some 0,.own _ rfl,rfl,λ_ _=>rfl⟩
 intro hl;refine Ar.o<|Br.mk (λh2=>?_) (λh2=>?_)
 ·refine⟨Dig,dgE,[],rfl,Ob.mk zeK ?_⟩;refine⟨some 0,.own _ rfl,?_,λ_ _=>rfl⟩
  have e:val a / 2 ^ n=0:=by
   refine Kd (Xq (je a) ?_);rw[zaY];exact XH dC oM
  rw[e,jr];rfl
 refine⟨Dig,dgE,[],rfl,Ob.mk zeK ?_⟩;refine Ar.o<|Dv.pos ⟨oM,oM,by show _<=(9223372036854775807:Int);omega⟩ ?_
 refine⟨Nat×List Dig,λ⟨i,out⟩=>⟨[(6,i64 ((n / 32+i:Nat))),(5,.own 0),(0,.sl dgE a),(1,i64 (-(n:Int)))],[(0,qy out)],1,51,0⟩,
  λq=>q.1+n / 32<=a.length/\q.2.length=q.1/\∀j,j < q.2.length->dig q.2 j=val a / 2 ^ n / 4294967296 ^ j % 4294967296,λq=>a.length - q.1,(0,[]),?_,?_,?_⟩
 ·exact⟨by dsimp only;omega,rfl,λj h=>by simp at h⟩
 ·exact zL [0] ⟨congrArg (λn=>some (i64 n)) oM,rfl,rfl,rfl,trivial⟩ ⟨rfl,trivial⟩
 rintro⟨i,out⟩ ⟨g1,g2,g3⟩
 dsimp only at g1 g2 g3;intro hl1;refine⟨λh5=>?_,λh5=>?_⟩
 ·have d1:=yT a (n / 32+i);have d2:=yT a (n / 32+i+1);have hw:(((n / 32+i:Nat):Int)+1).toNat=n / 32+i+1:=oM;refine Ar.o<|zb.t (yJ a _ oM) ?_;rw[hw];refine Ob.o1<|Ar.fit (by simp only[Int.reducePow];omega)<|zb.t (yJ a _ oM) ?_;simp only[XX];refine Ar.fit (by simp only[Int.reducePow];omega)<|Ar.o<|Dv.pos ⟨oM,oM⟩<|Ar.o<|Ob.o11<|Ar.wrap ?_;have es:((-(-(n:Int))) % 32).toNat=n % 32:=oM
  refine⟨Dig,dgE,[dof ((dig a (n / 32+i+1)*4294967296+dig a (n / 32+i)) / 2 ^ (n % 32))],congrArg (λn=>[u32 n]) (zaZ (by rw[es];simp)),Ob.mk (zgZ _) ?_⟩;refine⟨_,rfl,Ob.mk (zg0 (by simp;omega)) ?_⟩;refine Ar.o ?_
  refine⟨(i+1,out++[dof ((dig a (n / 32+i+1)*4294967296+dig a (n / 32+i)) / 2 ^ (n % 32))]),⟨by dsimp only;omega,by simp[g2],?_⟩,
   zL [2] ⟨congrArg (λn=>some (i64 n)) oM,rfl,rfl,rfl,trivial⟩ ⟨rfl,trivial⟩,by dsimp only;omega⟩
  intro j hj;dsimp only at hj ⊢;rw[Xi,J6]at hj;rw[zqV]
  split
  ·exact g3 j oM
  ·have hji:j=i:=by omega
   subst hji;have:=zr5 a (n / 32) (n % 32) j oM;rw[show 32*(n / 32)+n % 32=n by omega]at this;rw[this,g2,Jv,zeI,kC]
 ·refine zb.fresh _ _ (jC _ oM) rfl (qT _) (.inr (qJ _))<|⟨some 1,.own _ rfl,?_,λ_ _=>rfl⟩
  have e:val out=val a / 2 ^ n:=by
   rw[zdq g3,Xu];rw[XQ (KQ dC)];refine Xq (je a) ?_;rw[zaY,zaY,← X7];exact XH dC oM
  rw[← e];rfl
theorem zr7(a:List Dig)(n:Nat)(ha:a.length<=800000000)(hn:n<=4096):
  CG0 281 [.sl dgE a,i64 n] [] (.sl dgE (zm (val a*2 ^ n))) []:=(zAJ a n ha hn).plain rfl
theorem zvM{r b:List Dig}(hb:dig b (b.length - 1)≠0)(hlt:val r < 4294967296*val b):
  val r / val b<=(dig r b.length*4294967296+dig r (b.length - 1)) / dig b (b.length - 1):=by
 have hl:0 < b.length:=by
  rcases Kr b.length with h | h
  ·rw[XJ.1 h]at hb;exact absurd rfl hb
  ·exact h
 have e1:=kU b (b.length - 1);have e3:=zG b (b.length - 1);rw[show b.length - 1+1=b.length by omega,ki (Xh _),Km,XN]at e3;have r1:=kU r (b.length - 1);have r2:=qV r (b.length - 1);have r3:=zG r (b.length - 1);have r4:=zG r b.length;rw[show b.length - 1+1=b.length by omega]at r3;have hbl:=je b;have hpow:4294967296 ^ b.length=4294967296 ^ (b.length - 1)*4294967296:=by rw[← XR];congr 1;omega
 have r5:val (r.drop (b.length+1))=0:=by
  rw[zjq];refine Kd (Nat.lt_trans hlt ?_);rw[XR,Ks];exact KG hbl dC
 rw[r5,Km,XN]at r4;rw[r4]at r3;rw[e3]at e1;rw[r3]at r1;have hp:=zdm (b.length - 1);generalize 4294967296 ^ (b.length - 1)=p at*;generalize dig b (b.length - 1)=t at*;generalize dig r (b.length - 1)=x at*;generalize dig r b.length=y at*;rw[Q8 oM];have h6:=Js (val r) (val b);generalize val r / val b=q at*;have h7:q*(p*t)<=q*val b:=Ka _ oM
 have h8:p*(q*t) < p*(x+4294967296*y+1):=by
  have:q*(p*t)=p*(q*t):=by rw[← KA,Ks q p,KA]
  rw[KC p _ 1];omega
 have:=JH h8;omega
theorem zvN{a q:Nat}{e:Int}(he:e=a)(ha:q<=a)(hb:q < 4294967296):∃m:Nat,m < 4294967296/\q<=m/\zbA e [4294967295]=m:=by
 rcases Int.le_total e 4294967295 with h | h
 ·exact⟨a,oM,ha,by simp only[zbA];rw[Int.min_eq_left h,he]⟩
 ·exact⟨4294967295,oM,oM,by simp only[zbA];rw[Int.min_eq_right h];simp⟩
theorem zvO(r b:List Dig)(hr:r.length<=800000000)(hb:b.length<=800000000)(ht:dig b (b.length - 1)≠0)(hlt:val r < 4294967296*val b):
  CG0 282 [.sl dgE r,.sl dgE b] [] (.tup [u64 ((val r / val b:Nat):Int),.own 0]) [(0,qy (zm (val r % val b)))]:=by
 refine qS tok mix Tryz.func282 rfl rfl rfl ?_
 have hl:0 < b.length:=by
  rcases Kr b.length with h | h
  ·rw[XJ.1 h]at ht;exact absurd rfl ht
  ·exact h
 have hbp:0 < val b:=by
  rcases Kr (val b) with h | h
  ·rw[h]at hlt;omega
  ·exact h
 have hest:=zvM ht hlt;have hq:val r / val b < 4294967296:=by rw[XQ hbp];exact hlt
 have d1:=yT r b.length;have d2:=yT r (b.length - 1);have d3:=yT b (b.length - 1);intro hl0;refine Dr.k<|zb.t (yJ r _ oM) ?_;rw[XX];refine Ob.o1<|Ar.fit (by simp only[Int.reducePow];omega)<|Ar.o<|zb.t (yJ r _ oM) ?_;rw[show((b.length:Int) - 1).toNat=b.length - 1 by omega];refine Ar.fit (by simp only[Int.reducePow];omega)<|Ar.o<|Ob.o ?_;intro x hx;rw[show((b.length:Int) - 1).toNat=b.length - 1 by omega]at hx;have dx:=zW hx;rw[dx]at ht hest d3;refine Ar.o ?_
 refine Dv.pos ⟨by simp only[Int.reducePow];omega,oM,by show _<=(18446744073709551615:Int);simp only[Int.reducePow];omega⟩ ?_;obtain⟨m,hm1,hm2,em⟩:=zvN (e:=((dig r b.length:Nat)*2 ^ 32+(dig r (b.length - 1):Nat):Int) / ((x.val:Nat):Int)) (by simp) hest hq;clear hest
 refine zb.to _ (show CG0 _ [.sl dgE b,u64 (zbA (((dig r b.length:Nat)*2 ^ 32+(dig r (b.length - 1):Nat):Int) / ((x.val:Nat):Int)) [4294967295])] [] (.sl dgE (zm (val b*m))) [] by
  rw[em];exact ztJ b m oM oM) rfl ?_
 refine⟨Nat,λd=>⟨[(8,u64 d),(9,.sl dgE (zm (val b*d))),(0,.sl dgE r),(1,.sl dgE b)],[],0,55,0⟩,λd=>val r / val b<=d/\d < 4294967296,λd=>d,m,?_,?_,?_⟩
 ·exact⟨hm2,oM⟩
 ·exact jG [] ⟨congrArg (λn=>some (u64 n)) em,rfl,rfl,rfl,trivial⟩ trivial
 rintro d ⟨h1,h2⟩
 have hlen:(zm (val b*d)).length<=b.length+1:=jN (by
  rw[XR]
  exact KZ (je b) h2)
 refine zb.t (zvI _ r oM oM) ?_;rw[zo];refine⟨λh3=>?_,λh3=>?_⟩
 ·have h3:=zr6.1 h3
  have hd:1<=d:=by
   rcases Kr d with h | h
   ·subst h;omega
   ·exact h
  have hq':val r / val b<=d - 1:=by
   have:val r / val b < d:=by rw[XQ hbp,Ks];exact h3
   omega
  refine Ar.o<|zb.t (zmW _ b oM oM) ?_;rw[zo];refine⟨d - 1,⟨hq',oM⟩,jG [] ⟨congrArg (λn=>some (u64 n)) oM,congrArg (λn=>some (SV.sl dgE (zm n))) (show val b*d - val b=val b*(d - 1) by rw[Nat.mul_sub,QX]),rfl,rfl,trivial⟩ trivial,by dsimp only;omega⟩
 ·have h3:val b*d<=val r:=QH λh=>h3 (zr6.2 h)
  have hd:d=val r / val b:=by
   have:d<=val r / val b:=by rw[Q8 hbp,Ks];exact h3
   omega
  refine zb.fresh _ _ (zvJ r _ oM oM) rfl (qT _) (.inr (qJ _))<|⟨some 0,zjj (.cons (zaW (by rw[hd])) (.cons (.own _ rfl) .nil)),?_,λ_ _=>rfl⟩
  have e:val r - val (zm (val b*d))=val r % val b:=by
   rw[zo,hd];have:=X3 (val r) (val b);omega
  rw[← e];rfl
end Go.Gs
