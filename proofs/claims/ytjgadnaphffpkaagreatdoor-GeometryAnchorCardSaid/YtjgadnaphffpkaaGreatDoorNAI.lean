/- A function that is handed blocks, and leaves blocks, za many za it will. -/
import Derived.Test.YtjgadnaphffpkaaGreatDoorNA
import Derived.Test.YtjgadnaphffpkaaGreatDoorNAF
import Derived.Test.YtjgadnaphffpkaaGreatDoorNAG
import Derived.RowKit3
import Derived.Below
import GoSem.Claim
import Derived.Test.YtjgadnaphffpkaaGreatDoorNAH
import Derived.Lib.Mul64
set_option maxRecDepth 100000
set_option maxHeartbeats 8000000
set_option linter.all false
namespace Go.Gs
section
def endG(Γ:List (TypeId×TI))(rs:List ResultVar)(r:SV)(M':List (Nat×Mem))(e:Ex)(σ:St):Prop:=
 match e with
 | .exit _=>False
 | _=>∃σ',Sub σ σ'/\σ'.M=M'/\zbQ σ' Γ rs λs=>LE s r
variable{P:Program}{Γ:List (TypeId×TI)}{f:FuncId}{fn:Func}{c:Code}{r:SV}
theorem u4(hT:TOK P Γ) (hm:P.follows .mixedOrders=true){args:List SV} {M M':List (Nat×Mem)}
  (hf:P.funcs[f]? =some fn) (hb:fn.body=some c) (hn:(fn.name== "runtime.NumGoroutine")=false) (hle:Nat.ble args.length fn.ntmps=true)
  (h:jP P Γ c ⟨yf 0 args,M,M.length,fn.ntmps,M.length⟩ (endG Γ fn.results.toList r M')):qI P f args M r M':=by
 refine zaM hT hm hf hb hn hle h (Q':=λe σ=>(∀id,e≠.exit id)/\σ.M=M'/\zbQ σ Γ fn.results.toList λs=>LE s r) (λe σ hq=>?_) (λe σ hq he=>?_) (λid σ hq=>hq.1 id rfl)
 ·cases e with
  | exit id=>exact hq.elim
  | normal=>obtain⟨σ',h1,h2,h3⟩:=hq;exact⟨σ',h1,λ_=>by simp,h2,h3⟩
  | ret=>obtain⟨σ',h1,h2,h3⟩:=hq;exact⟨σ',h1,λ_=>by simp,h2,h3⟩
 ·obtain⟨_,hM,hq⟩:=hq;obtain⟨s,hle,h1⟩:=yw hT hq;refine⟨s,h1,λ{E ρ a w v} hr hW hρ0 hg=>⟨ρ,?_,?_,?_⟩⟩
  ·have hs:=hr.stp;rw[hM]at hs;exact⟨hs.os,hs.tape,hs.output,hs.size,λb hb hn=>hs.block b hb λh=>hn ((hW b).1 h),λb hb=>(hs.own b hb).imp (hW b).1 id,hs.rho⟩
  ·have:=hr.mem
   rwa [hM]at this
  ·rw[hM]at hg;exact hle _ _ _ _ _ hg
variable{σ:St}
theorem zzw(k0:Nat) {m m':Mem} (h0:zX σ.M k0=some m)
  (hm:∀(S Pm:Nat->Prop) (ρ:zk) (w:World),j8 S Pm ρ w k0 m->j8 S Pm ρ w k0 m'):
  Sub σ ⟨σ.L,qM σ.M k0 m',σ.nk,σ.nt,σ.n0⟩:=by
 intro E ρ a w hr;refine⟨ρ,?_⟩;have hkeys:(qM σ.M k0 m').map (·.1)=σ.M.map (·.1):=zaI;have hown:∀b,Own (qM σ.M k0 m') ρ b->Own σ.M ρ b:=λb hb=>zad hkeys.symm hb
 have hown':∀b,Own σ.M ρ b->Own (qM σ.M k0 m') ρ b:=λb hb=>zad hkeys hb
 have eo:Own (qM σ.M k0 m') ρ=Own σ.M ρ:=funext λb=>propext ⟨hown b,hown' b⟩
 refine⟨hr.size,hr.defers,λt s hl=>?_,⟨λk1 m1 h1=>?_,yS hkeys hr.mem.keys,λk1 m1 k2 m2 v1 v2 b h1 h2=>?_,λb hb=>hr.mem.old b (hown b hb),hr.mem.kp,hr.mem.glO hown⟩,
  hr.fresh,?_,hr.keep,hr.low⟩
 ·show t < σ.nt/\G (λb=>E.Keep b∨Own (qM σ.M k0 m') ρ b) (Own (qM σ.M k0 m') ρ) ρ w s (a.tmps.getD t undef);rw[eo];exact hr.regs t s hl
 ·show j8 (λb=>E.Keep b∨Own (qM σ.M k0 m') ρ b) (Own (qM σ.M k0 m') ρ) ρ w k1 m1;rw[eo]
  rcases jQ hr.mem.keys _ h1 with⟨_,h2⟩ | h2
  ·exact hr.mem.rel k1 m1 h2
  ·cases h2
   exact hm _ _ _ _ (hr.mem.rel k0 m (zA h0))
 ·have back:∀k1 m1,(k1,m1)∈qM σ.M k0 m'->∃m',(k1,m')∈σ.M:=λk1 m1 h=>by
   rcases jQ hr.mem.keys _ h with⟨_,h2⟩ | h2
   ·exact⟨m1,h2⟩
   ·cases h2;exact⟨_,zA h0⟩
  obtain⟨m1',h1'⟩:=back _ _ h1;obtain⟨m2',h2'⟩:=back _ _ h2;exact hr.mem.apart k1 m1' k2 m2' v1 v2 b h1' h2'
 ·show Stp E.W0 (Own (qM σ.M k0 m') ρ) E.ρ0 ρ E.w0 w;rw[eo];exact hr.stp
theorem LEs.ixs{za bs:List SV}(h:LEs za bs):za.length=bs.length/\∀(j:Nat) (r:SV),bs[j]? =some r->∃s,za[j]? =some s/\LE s r:=by
 induction h with
 | nil=>exact⟨rfl,λj r h=>by simp at h⟩
 | cons h t ih=>
  refine⟨by simp[ih.1],λj r hr=>?_⟩
  cases j with
  | zero=>simp at hr;subst hr;exact⟨_,rfl,h⟩
  | succ j=>simpa using ih.2 j r (by simpa using hr)
inductive Rows:List (List SV)->List (List SV)->Prop
 | nil:Rows [] []
 | cons {x y:List SV} {xs ys:List (List SV)} (h:LEs x y) (t:Rows xs ys):Rows (x::xs) (y::ys)
theorem Rows.refl:∀{xs:List (List SV)},Rows xs xs
 | []=>.nil
 | _::_=>.cons .refl .refl
variable{ys:List (List SV)}
theorem Rows.app{xs us vs:List (List SV)}(h:Rows xs ys)(k:Rows us vs):Rows (xs++us) (ys++vs):=by
 induction h with
 | nil=>exact k
 | cons h t ih=>exact .cons h ih
theorem Rows.ix{xs:List (List SV)}(h:Rows xs ys):xs.length=ys.length/\∀(i:Nat) y,ys[i]? =some y->∃x,xs[i]? =some x/\LEs x y:=by
 induction h with
 | nil=>exact⟨rfl,λi y h=>by simp at h⟩
 | cons h t ih=>
  refine⟨by simp[ih.1],λi y hy=>?_⟩
  cases i with
  | zero=>simp at hy;subst hy;exact⟨_,rfl,h⟩
  | succ i=>simpa using ih.2 i y (by simpa using hy)
theorem zek(k0:Nat){T:TypeId}{sz:Nat}{xs:List (List SV)}(h0:zX σ.M k0=some (.garr T sz xs))(h:Rows xs ys):Sub σ ⟨σ.L,qM σ.M k0 (.garr T sz ys),σ.nk,σ.nt,σ.n0⟩:=by
 refine zzw k0 h0 λS Pm ρ w ⟨v,cells,g1,g2,g3,g4,g5,g6⟩=>⟨v,cells,g1,by rw[← h.ix.1];exact g2,by rw[← h.ix.1];exact g3,g4,λy hy=>?_,λi j y s hy hs=>?_⟩
 ·obtain⟨i,hi⟩:=Yj.1 hy;obtain⟨x,hx,hle⟩:=h.ix.2 i y hi;rw[← hle.ixs.1];exact g5 x (Xd hx)
 ·obtain⟨x,hx,hle⟩:=h.ix.2 i y hy;obtain⟨s',hs',hl⟩:=hle.ixs.2 j s hs;obtain⟨u,hu,hg⟩:=g6 i j x s' hx hs';exact⟨u,hu,hl _ _ _ _ _ hg⟩
theorem law_walk'{args:List SV} {vs:List Value} {w:World} (h:qI P f args [] (bl true) [])
  (hg:∀S Pm:Nat->Prop,(∀b,¬S b)->(∀b,¬Pm b)->Gs S Pm (λ_=>none) w args vs) (hgl:∀g v,GL g v->w.cell? ⟨g,0,none⟩=some v:=by intro _ _ h;cases h):
  Calls P f vs.toArray w λe w'=>e=.returned (.bool true)/\RowKit.Grown w w'/\RowKit.Below w.heap.size w w':=by
 refine(h.2 (λ_=>False) (λ_=>none) w vs (λ_ h=>h.elim) (jj (λ_ h=>h.elim) hgl) (λ_ _=>rfl) (hg _ _ (λb hb=>hb.elim id z0) (λb=>z0))).mono ?_
 rintro e w' ⟨v,ρ',rfl,hs,_,hv⟩
 refine⟨by rw[hv.val_inv],⟨⟨hs.os,hs.output.1,λi hi=>?_⟩,hs.output.2,hs.size⟩,⟨hs.os,hs.tape,hs.output.1,hs.size,λi hi=>hs.block i hi z0⟩⟩;rw[hs.block i hi z0]
 cases w.heap[i]? with
 | none=>rfl
 | some o=>cases o <;> simp
theorem r64{n:Int}(h:(Lit.int .i64 n).wf=true):R64 n:=by
 simp only[Lit.wf,Xx,decide_eq_true_eq]at h;exact h
def zwB(P:Program)(Γ:List (TypeId×TI)):Nat->Code->(St->Prop)->St->(Ex->St->Prop)->Prop
 | 0,_,J,σ,_=>J σ
 |n+1,.seq x y,J,σ,Q=>jP P Γ x σ λe σ=>(match e with
  | .normal=>zwB P Γ n y J σ Q
  | .exit id=>Q (.exit id) σ
  | .ret=>Q .ret σ)
 | _+1,_,_,_,_=>False
def zwC:Nat->Code->Code
 | 0,c=>c
 | n+1,.seq _ y=>zwC n y
 | _+1,c=>c
def zc9(P:Program)(c:Code)(σ:St)(Q:Ex->St->Prop):Prop:=∀(E:Env) (ρ:zk) (a:Act) (w:World),Rel E σ ρ a w->c.wp P (u3 E Q) a w
variable{Q:Ex->St->Prop}
theorem zc9.vc(hT:TOK P Γ)(hm:P.follows .mixedOrders=true)(h:jP P Γ c σ Q):zc9 P c σ Q:=
 λ_ _ _ _ hr=>kX hT hm c hr h
theorem zlT{P:Program}{Γ:List (TypeId×TI)}(hT:TOK P Γ)(hm:P.follows .mixedOrders=true){J:St->Prop}{Q:Ex->St->Prop}:∀(n:Nat) (c:Code) {σ:St},
  zwB P Γ n c J σ Q->(∀σ,J σ->zc9 P (zwC n c) σ Q)->zc9 P c σ Q
 | 0,_,_,h,hJ=>hJ _ h
 | n+1,.seq x y,σ,h,hJ=>λE ρ a w hr=>by
  refine wp_seq (Code.wp_mono (λe a' w' hq=>?_) (kX hT hm x hr h))
  cases e with
  | normal=>obtain⟨σ',ρ',h',hr'⟩:=hq;exact zlT hT hm n y h' hJ E ρ' a' w' hr'
  | exit id=>exact hq
  | ret=>exact hq
  | _=>exact hq.elim
 | _+1,.skip,_,h,_=>h.elim
 | _+1,.region ..,_,h,_=>h.elim
 | _+1,.cond ..,_,h,_=>h.elim
 | _+1,.block ..,_,h,_=>h.elim
 | _+1,.loop ..,_,h,_=>h.elim
 | _+1,.rangeFunc ..,_,h,_=>h.elim
 | _+1,.exit ..,_,h,_=>h.elim
 | _+1,.scope ..,_,h,_=>h.elim
 | _+1,.label ..,_,h,_=>h.elim
 | _+1,.goto ..,_,h,_=>h.elim
 | _+1,.ret,_,h,_=>h.elim
 | _+1,.refuse ..,_,h,_=>h.elim
theorem zc9.cut(hT:TOK P Γ) (hm:P.follows .mixedOrders=true)(n:Nat) {ι:Type} (S:ι->St) (I:ι->Prop)
  (h:zwB P Γ n c (λσ=>∃i,I i/\Sub σ (S i)) σ Q) (h2:∀i,I i->zc9 P (zwC n c) (S i) Q):zc9 P c σ Q:=
 zlT hT hm n c h λ_ ⟨i,hi,hs⟩ E ρ a w hr=>by
  obtain⟨ρ',hr'⟩:=hs E ρ a w hr;exact h2 i hi E ρ' a w hr'
theorem zcz(hT:TOK P Γ){args:List SV}
  (hf:P.funcs[f]? =some fn) (hb:fn.body=some c) (hn:(fn.name== "runtime.NumGoroutine")=false) (hle:Nat.ble args.length fn.ntmps=true)
  (h:zc9 P c ⟨yf 0 args,[],0,fn.ntmps,0⟩ (endV Γ fn.results.toList r)):qI P f args [] r []:=by
 refine⟨⟨fn,hf,hn,by rw[hb];rfl⟩,λKeep ρ w vs _ hmem hρ hg=>calls_of_wp hf hb ?_⟩;have hrel:=zaL (nt:=fn.ntmps) hmem hρ hg (Xw hle);refine Code.wp_mono (λe a' w' hq=>?_) (h _ _ _ _ hrel)
 have fin:∀σ ρ1,zbQ σ Γ fn.results.toList (λs=>LE (zlB (zX σ.M) s) r)->Rel ⟨w,ρ,Keep,Own [] ρ,[]⟩ σ ρ1 a' w'->a'.defers=[]/\∃v,(results fn a'.tmps).run P w'=.ok v w'/\∃v' ρ',Ending.returned v=.returned v'/\Stp (Own [] ρ) (Own [] ρ') ρ ρ' w w'/\
   zO Keep [] ρ' w'/\G (λb=>Keep b∨Own [] ρ' b) (Own [] ρ') ρ' w' r v':=by
  intro σ ρ1 hq hr;obtain⟨s,hle,h1⟩:=yw hT hq;obtain⟨v,g1,hg⟩:=h1 hr;have hs:=hr.stp;refine⟨hr.defers,v,g1,v,ρ1,rfl,⟨hs.os,hs.tape,hs.output,hs.size,hs.block,λb hb=>absurd hb z0,hs.rho⟩,jj hr.mem.kp λ_ _ h=>hr.mem.glc h,?_⟩;exact hle _ _ _ _ _ (znk (λk m h=>zA h) hr.mem (λb hb=>.inl (hb.resolve_right z0)) hg (λb hb hk=>(hr.mem.old b hb).2 (hk.resolve_right z0)) (λ_=>z0))
 cases e with
 | normal=>obtain⟨σ,ρ1,hq,hr⟩:=hq;exact fin σ ρ1 hq hr
 | ret=>obtain⟨σ,ρ1,hq,hr⟩:=hq;exact fin σ ρ1 hq hr
 | exit id=>obtain⟨σ,ρ1,hq,hr⟩:=hq;exact hq.elim
 | _=>exact hq.elim
abbrev Dig:=Fin 4294967296
def val:List Dig->Nat
 | []=>0
 | d::r=>d.val+4294967296*val r
def zm(n:Nat):List Dig:=
 if h:n=0 then[] else⟨n % 4294967296,Kn _ dC⟩::zm (n / 4294967296)
termination_by n
decreasing_by exact Yb (X5 h) dC
def dig(xs:List Dig)(i:Nat):Nat:=match xs[i]? with
 | some d=>d.val
 | none=>0
theorem zdy(i:Nat):0 < 4294967296 ^ i:=KS dC
theorem yW(xs:List Dig)(i:Nat):dig xs i < 4294967296:=by
 unfold dig;split
 ·exact Fin.isLt _
 ·decide
variable{xs:List Dig}{i:Nat}
theorem zY{d:Dig}(h:xs[i]? =some d):dig xs i=d.val:=by simp[dig,h]
theorem zaF(h:xs.length<=i):dig xs i=0:=by simp[dig,h]
theorem zeT(d:Dig)(r:List Dig):dig (d::r) 0=d.val:=rfl
theorem zaa(d:Dig)(r:List Dig)(i:Nat):dig (d::r) (i+1)=dig r i:=by simp[dig]
theorem zwF(xs:List Dig)(k i:Nat):dig (xs.take k) i=if i < k then dig xs i else 0:=by
 by_cases h:i < k <;> simp[dig,Xv,h]
theorem jW(xs:List Dig)(i j:Nat)(d:Dig):dig (xs.set i d) j=if i=j/\i < xs.length then d.val else dig xs j:=by
 simp only[dig,Kf]
 by_cases h:i=j
 ·subst h
  by_cases h2:i < xs.length
  ·simp[h2]
  ·simp[h2];
 ·simp[h]
theorem zrB(xs ys:List Dig)(i:Nat):dig (xs++ys) i=if i < xs.length then dig xs i else dig ys (i - xs.length):=by
 by_cases h:i < xs.length <;> simp[dig,XM,h]
theorem yU(n i:Nat):dig (List.replicate n (0:Dig)) i=0:=by
 simp only[dig,List.getElem?_replicate];by_cases h:i < n <;> simp[h]
theorem znq:val []=0:=rfl
theorem vu(d:Dig)(r:List Dig):val (d::r)=d.val+4294967296*val r:=rfl
theorem vQ:∀xs ys:List Dig,val (xs++ys)=val xs+4294967296 ^ xs.length*val ys
 | [],ys=>by simp[val]
 | x::xs,ys=>by
  simp only[QN,val,vQ xs ys,Xl,XS]
  grind
theorem jk:∀xs:List Dig,val xs < 4294967296 ^ xs.length
 | []=>by simp[val]
 | x::xs=>by
  have h:=jk xs;have:=x.isLt;simp only[val,Xl,XS];omega
theorem kV(xs:List Dig)(i:Nat):val xs=val (xs.take i)+4294967296 ^ i*val (xs.drop i):=by
 by_cases h:i<=xs.length
 ·have:=vQ (xs.take i) (xs.drop i);rw[Ki,Xk,KW h]at this;exact this
 ·rw[Xf oM,Ky oM];simp[val]
theorem ja(xs:List Dig)(i:Nat):val (xs.take i) < 4294967296 ^ i:=by
 have h:=jk (xs.take i);have:(xs.take i).length<=i:=by simp;omega
 exact Xr h (XI dC this)
theorem zG(xs:List Dig)(i:Nat):val (xs.drop i)=dig xs i+4294967296*val (xs.drop (i+1)):=by
 by_cases h:i < xs.length
 ·rw[KG h,vu,zY (Xb h)]
 ·rw[Ky oM,Ky oM,zaF oM];rfl
theorem zU(xs:List Dig)(i:Nat):val (xs.take (i+1))=val (xs.take i)+4294967296 ^ i*dig xs i:=by
 have h1:=kV xs i;have h2:=kV xs (i+1);have h3:=zG xs i;rw[XS]at h2;rw[h3]at h1;generalize 4294967296 ^ i=q at*;generalize val (xs.take (i+1))=a at*;generalize val (xs.take i)=b at*;generalize val (xs.drop (i+1))=c at*;have:q*(dig xs i+4294967296*c)=q*dig xs i+q*4294967296*c:=by rw[KF,KD]
 omega
theorem kY(h:xs.length<=i):val (xs.take i)=val xs:=by rw[Xf h]
theorem zlo(xs:List Dig):val (xs.take 0)=0:=rfl
theorem kj(h:xs.length<=i):val (xs.drop i)=0:=by rw[Ky h];rfl
theorem zab:∀(xs:List Dig) (i:Nat) (d:Dig),i < xs.length->val (xs.set i d)+4294967296 ^ i*dig xs i=val xs+4294967296 ^ i*d.val
 | [],i,d,h=>by simp at h
 | x::xs,0,d,_=>by simp only[List.set_cons_zero,val,zeT];omega
 | x::xs,i+1,d,h=>by
  have ih:=zab xs i d (by simpa using h);simp only[JK,val,zaa,XS]
  grind
theorem vv(xs:List Dig)(d:Dig):val (xs++[d])=val xs+4294967296 ^ xs.length*d.val:=by
 rw[vQ];simp[val]
theorem zaN(n:Nat):val (List.replicate n (0:Dig))=0:=by
 induction n with
 | zero=>rfl
 | succ n ih=>rw[List.replicate_succ,vu,ih];rfl
theorem ju:zm 0=[]:=by unfold zm;rfl
theorem zdz{n:Nat}(h:n≠0):zm n=⟨n % 4294967296,Kn _ dC⟩::zm (n / 4294967296):=by
 rw[zm];simp[h]
theorem zr(n:Nat):val (zm n)=n:=by
 induction n using Nat.strongRecOn with
 | _ n ih=>
  by_cases h:n=0
  ·subst h;rw[ju];rfl
  ·rw[zdz h,vu,ih _ (Yb (X5 h) dC)];show n % 4294967296+_=n;omega
def zpc(xs:List Dig):Prop:=xs=[]∨dig xs (xs.length - 1)≠0
theorem zeU:∀{xs:List Dig},zpc xs->xs≠[]->val xs≠0
 | [],_,h=>absurd rfl h
 | [x],h,_=>by
  rcases h with h | h
  ·cases h
  ·have:dig [x] ([x].length - 1)=x.val:=rfl;simp only[val];omega
 | x::y::r,h,_=>by
  have h':zpc (y::r):=by
   rcases h with h | h
   ·cases h
   ·right
    simp only[Xl,Qg]at h ⊢;rw[zaa]at h;exact h
  have:=zeU h' (by simp);rw[vu];omega
theorem zpd:∀{xs:List Dig},zpc xs->zm (val xs)=xs
 | [],_=>ju
 | x::r,h=>by
  have hp:=zeU h (by simp)
  have h':zpc r:=by
   rcases h with h | h
   ·cases h
   ·cases r with
    | nil=>exact .inl rfl
    | cons y r=>
     right
     simp only[Xl,Qg]at h ⊢;rw[zaa]at h;exact h
  have hx:=x.isLt;rw[zdz hp];have e1:val (x::r) % 4294967296=x.val:=by rw[vu];omega
  have e2:val (x::r) / 4294967296=val r:=by rw[vu];omega
  rw[e2,zpd h'];congr 1;exact Fin.ext e1
theorem vR(n:Nat):zpc (zm n):=by
 induction n using Nat.strongRecOn with
 | _ n ih=>
  by_cases h:n=0
  ·subst h;rw[ju];exact .inl rfl
  ·have ih:=ih _ (Yb (X5 h) (show 1 < 4294967296 by decide))
   right
   rw[zdz h]
   rcases ih with ih | ih
   ·have e:=zr (n / 4294967296);rw[ih]at e ⊢;simp only[val]at e;show n % 4294967296≠0;omega
   ·by_cases he:zm (n / 4294967296)=[]
    ·rw[he]at ih;exact absurd (by rfl) ih
    ·obtain⟨y,r,he⟩:=List.exists_cons_of_ne_nil he;rw[he]at ih ⊢;simp only[Xl,Qg]at ih ⊢;rw[zaa];exact ih
theorem zjH{n:Nat}(h:n=0∨dig xs (n - 1)≠0)(hn:n<=xs.length)(hz:∀i,n<=i->dig xs i=0):xs.take n=zm (val xs):=by
 have e:val xs=val (xs.take n):=by
  rw[kV xs n]
  have:val (xs.drop n)=0:=by
   have key:∀k,val (xs.drop (n+k))=0∨k<=xs.length:=λk=>by
    by_cases hk:k<=xs.length
    ·exact .inr hk
    ·exact .inl (kj oM)
   have down:∀j,val (xs.drop (n+(xs.length - j)))=0:=by
    intro j
    induction j with
    | zero=>exact kj oM
    | succ j ih=>
     by_cases hj:j < xs.length
     ·rw[zG,hz _ oM,show n+(xs.length - (j+1))+1=n+(xs.length - j) by omega,ih]
     ·rw[show n+(xs.length - (j+1))=n+(xs.length - j) by omega];exact ih
   have:=down xs.length
   simpa using this
  rw[this];simp
 rw[e,zpd]
 by_cases hn0:n=0
 ·subst hn0;exact .inl rfl
 ·right
  rw[Xk,KW hn,zwF,if_pos oM];exact h.resolve_left hn0
theorem jS{n k:Nat}(h:n < 4294967296 ^ k):(zm n).length<=k:=by
 induction k generalizing n with
 | zero=>
   have:n=0:=by simpa using h
   subst this;rw[ju];simp
 | succ k ih=>
  by_cases h0:n=0
  ·subst h0;rw[ju];simp
  ·rw[zdz h0,Xl]
   have:n / 4294967296 < 4294967296 ^ k:=by
    rw[XR dC];rwa [XS]at h
   have:=ih this;omega
theorem zcA{n k:Nat}(h:(zm n).length<=k):n < 4294967296 ^ k:=by
 have:=jk (zm n);rw[zr]at this;exact Xr this (XI dC h)
theorem zJ(xs:List Dig):(zm (val xs)).length<=xs.length:=jS (jk xs)
theorem yM{n:Nat}:zm n=[]↔n=0:=by
 constructor
 ·intro h;have:=zr n;rw[h]at this;exact this.symm
 ·rintro rfl;exact ju
theorem jG{n:Nat}:0 < (zm n).length↔n≠0:=by
 rw[JD,Ne,yM]
theorem znr{n:Nat}(h:n≠0):4294967296 ^ ((zm n).length - 1)<=n:=by
 rcases Qe n (4294967296 ^ ((zm n).length - 1)) with h1 | h1
 ·have:=jS h1;have:=jG.2 h;omega
 ·exact h1
theorem qx{m n:Nat}(h:m<=n):(zm m).length<=(zm n).length:=jS (KX h (zcA (Xh _)))
theorem zdA{xs ys:List Dig}{k:Nat}(h:∀i,k<=i->dig xs i=dig ys i):val (xs.drop k)=val (ys.drop k):=by
 have down:∀j,∀k',k<=k'->max xs.length ys.length<=k'+j->val (xs.drop k')=val (ys.drop k'):=by
  intro j
  induction j with
  | zero=>intro k' _ hk;rw[kj oM,kj oM]
  | succ j ih=>
   intro k' hk hj;rw[zG,zG ys,h k' hk,ih (k'+1) oM oM]
 exact down (max xs.length ys.length) k (Xh _) oM
theorem zlU{ys:List Dig}(h:∀i,dig xs i=dig ys i):val xs=val ys:=by
 have:=zdA (k:=0) (xs:=xs) (ys:=ys) (λi _=>h i)
 simpa using this
theorem zzx(xs:List Dig)(i:Nat):dig xs i=val xs / 4294967296 ^ i % 4294967296:=by
 have h1:=kV xs i;have h2:=ja xs i;have h3:=zG xs i;have h4:=yW xs i
 have e:val xs / 4294967296 ^ i=val (xs.drop i):=by
  rw[h1,J6,Qk (zdy i),Kg h2,XP]
 rw[e,h3];omega
theorem zjI(xs:List Dig)(i:Nat):val (xs.drop i)=val xs / 4294967296 ^ i:=by
 have h1:=kV xs i;have h2:=ja xs i;rw[h1,J6,Qk (zdy i),Kg h2,XP]
theorem zpe(xs:List Dig)(i:Nat):val (xs.take i)=val xs % 4294967296 ^ i:=by
 have h1:=kV xs i;have h2:=ja xs i;rw[h1,JR,Xu h2]
def dof(n:Nat):Dig:=⟨n % 4294967296,Kn _ dC⟩
theorem kE(n:Nat):(dof n).val=n % 4294967296:=rfl
def kN(n:Nat):Nat:=if n=0 then 0 else n.log2+1
theorem zdB(n:Nat):n < 2 ^ kN n:=by
 unfold kN;split
 ·subst_vars;decide
 ·exact Nat.lt_log2_self
theorem zbV{n:Nat}(h:n≠0):2 ^ (kN n - 1)<=n:=by
 unfold kN;rw[if_neg h];exact Nat.log2_self_le h
theorem zf4{n k:Nat}(h1:n < 2 ^ k)(h2:n≠0)(h3:2 ^ (k - 1)<=n):kN n=k:=by
 have a:=zdB n;have b:=zbV h2;have c:2 ^ (kN n - 1) < 2 ^ k:=KX b h1;have d:2 ^ (k - 1) < 2 ^ kN n:=KX h3 a;have c:=(Qr (by decide:1 < 2)).1 c;have d:=(Qr (by decide:1 < 2)).1 d;have:0 < kN n:=by unfold kN;rw[if_neg h2];omega
 have:k≠0:=by rintro rfl;simp at h1;exact h2 h1
 omega
theorem zrC:kN 0=0:=rfl
theorem zbW{n:Nat}:0 < kN n↔n≠0:=by
 unfold kN;split <;> omega
theorem za7(k:Nat):4294967296 ^ k=2 ^ (32*k):=by rw[show 4294967296=2 ^ 32 by decide,← Nat.pow_mul]
theorem zuB{n:Nat}(h:2<=n):n.log2=(n / 2).log2+1:=by rw[Nat.log2_def,if_pos h]
theorem zrD{n:Nat}(h:n≠0):kN n=kN (n / 2)+1:=by
 unfold kN;rw[if_neg h]
 by_cases h1:n / 2=0
 ·rw[if_pos h1];have:n=1:=oM;subst this;rfl
 ·rw[if_neg h1,zuB oM]
theorem zbX(hn:dig xs (xs.length - 1)≠0):kN (val xs)=32*(xs.length - 1)+kN (dig xs (xs.length - 1)):=by
 have hl:0 < xs.length:=by
  rcases Kr xs.length with h | h
  ·rw[XJ.1 h]at hn;exact absurd rfl hn
  ·exact h
 have e1:=kV xs (xs.length - 1);have e2:=ja xs (xs.length - 1);have e3:=zG xs (xs.length - 1);rw[show xs.length - 1+1=xs.length by omega,kj (Xh _),Ko,XP]at e3;rw[e3]at e1;generalize dig xs (xs.length - 1)=t at*;have p1:=zdB t;have p2:=zbV hn;rw[za7]at e1 e2;have p0:0 < 2 ^ (32*(xs.length - 1)):=KS dC;have np:0 < kN t:=zbW.2 hn;refine zf4 ?_ ?_ ?_
 ·rw[X7];have:2 ^ (32*(xs.length - 1))*(t+1)<=2 ^ (32*(xs.length - 1))*2 ^ kN t:=Kb _ p1;rw[KF,Jb]at this;omega
 ·have:2 ^ (32*(xs.length - 1))*1<=2 ^ (32*(xs.length - 1))*t:=Kb _ oM;omega
 ·rw[show 32*(xs.length - 1)+kN t - 1=32*(xs.length - 1)+(kN t - 1) by omega,X7];have:2 ^ (32*(xs.length - 1))*2 ^ (kN t - 1)<=2 ^ (32*(xs.length - 1))*t:=Kb _ p2;omega
theorem zdC{xs:List Dig}{N:Nat}(h:∀j,j < xs.length->dig xs j=N / 4294967296 ^ j % 4294967296):val xs=N % 4294967296 ^ xs.length:=by
 have key:∀i,i<=xs.length->val (xs.take i)=N % 4294967296 ^ i:=by
  intro i
  induction i with
  | zero=>intro _;rw[Jk,Nat.mod_one];rfl
  | succ i ih=>
   intro hi;rw[zU,ih oM,h i oM,XS,Nat.mod_mul]
 have:=key xs.length (Xh _)
 rwa [X9]at this
theorem zsQ(xs:List Dig)(w s j:Nat)(hs:s < 32):val xs / 2 ^ (32*w+s) / 4294967296 ^ j % 4294967296=(dig xs (w+j+1)*4294967296+dig xs (w+j)) / 2 ^ s % 4294967296:=by
 have e:val xs / 2 ^ (32*w+s) / 4294967296 ^ j=val (xs.drop (w+j)) / 2 ^ s:=by
  rw[zjI,J8,J8];congr 1;rw[za7,za7,← X7,← X7];congr 1;omega
 rw[e,zG,zG];generalize val (xs.drop (w+j+1+1))=R;generalize dig xs (w+j+1)=x;generalize dig xs (w+j)=y;have hp:2 ^ s*2 ^ (32 - s)=4294967296:=by rw[← X7,show s+(32 - s)=32 by omega]
 have:y+4294967296*(x+4294967296*R)=(x*4294967296+y)+2 ^ s*(2 ^ (32 - s)*4294967296*R):=by
  rw[show 2 ^ s*(2 ^ (32 - s)*4294967296*R)=(2 ^ s*2 ^ (32 - s))*4294967296*R by simp only[KD],hp];omega
 rw[this,Nat.add_mul_div_left _ _ (KS dC)];rw[show 2 ^ (32 - s)*4294967296*R=4294967296*(2 ^ (32 - s)*R) by rw[Ks (2 ^ (32 - s)),KD],JR]
end
open Go.Proofs
def dgE(d:Dig):List SV:=[.val (.int .u32 (d.val:Int))]
abbrev u32(n:Int):SV:=.val (.int .u32 n)
abbrev u64(n:Int):SV:=.val (.int .u64 n)
abbrev qD(xs:List Dig):Mem:=.arr 141 dgE 1 xs
theorem qZ(xs:List Dig):zhU (qD xs):=λ_ _=>rfl
theorem qN(xs:List Dig):ziy (qD xs):=λ_ _=>rfl
theorem zjJ(e:Int):IntKind.u32.wrap e=e % 4294967296:=rfl
theorem yx(e:Int):IntKind.u64.wrap e=e % 18446744073709551616:=rfl
theorem zhb(d:Dig):[d].length=1/\1<=281474976710656/\1*1<=16777216/\0 < 1/\∀x∈[d],(dgE x).length=1/\jO (dgE x)=true/\ym.flats (dgE x)=true:=
 ⟨rfl,dC,dC,dC,λ_ _=>⟨rfl,rfl,rfl⟩⟩
theorem zeV:([]:List Dig).length=0/\0<=281474976710656/\0*1<=16777216/\0 < 1/\∀x∈([]:List Dig),(dgE x).length=1/\jO (dgE x)=true/\ym.flats (dgE x)=true:=
 ⟨rfl,dC,dC,dC,λ_ _=>⟨rfl,rfl,rfl⟩⟩
theorem zhc{xs ys:List Dig}(h:xs.length+ys.length<=2000000000):((xs.length+ys.length:Int)*(4:Nat)<=140737488355328/\xs.length+ys.length<=281474976710656/\0 < 1/\∀x∈ys,(dgE x).length=1):=
 ⟨oM,oM,dC,λ_ _=>rfl⟩
def zf5(a b:Nat):Int:=if a < b then -1 else if b < a then 1 else 0
theorem zel{a b:Nat}:zf5 a b < 0↔a < b:=by
 unfold zf5;split
 ·simp_all
 ·split <;> simp_all
theorem zsR{a b:Nat}:0 < zf5 a b↔b < a:=by
 unfold zf5;split
 ·simp;omega
 ·split <;> simp_all
theorem jH(a:List Dig)(ha:a.length<=1000000000):CG0 165 [.sl dgE a] [] (.own 0) [(0,qD (zm (val a)))]:=by
 refine qY tok mix Tryz.func165 rfl rfl rfl ?_;intro hl0;refine⟨Nat,λn=>⟨[(3,i64 n),(0,.sl dgE a)],[],0,34,0⟩,λn=>n<=a.length/\∀i,n<=i->dig a i=0,λn=>n,a.length,?_,?_,?_⟩
 ·exact⟨Xh _,λi h=>zaF h⟩
 ·exact zE []
 rintro n ⟨h1,h2⟩
 have post:∀(n:Nat),n<=a.length->(∀i,n<=i->dig a i=0)->(n=0∨dig a (n - 1)≠0)->zm (val a)=a.take n:=λn h1 h2 h3=>(zjH h3 h1 h2).symm
 refine⟨λh3=>?_,λh3=>?_⟩
 ·refine Ar.o<|Ob.o ?_;intro x hx;refine⟨λh4=>?_,λh4=>?_⟩
  ·refine Ar.o<|⟨n - 1,⟨oM,λi hi=>?_⟩,jL [] ⟨congrArg (λn=>some (i64 n)) oM,rfl,trivial⟩ trivial,by dsimp only;omega⟩
   by_cases e:i=n - 1
   ·subst e;rw[show((n:Int) - 1).toNat=n - 1 by omega]at hx;rw[zY hx];omega
   ·exact h2 i oM
  ·have h5:dig a (n - 1)≠0:=by
    rw[show((n:Int) - 1).toNat=n - 1 by omega]at hx;rw[zY hx];omega
   rw[post n h1 h2 (.inr h5)];refine⟨Dig,dgE,[],rfl,Ob.mk zeV ?_⟩;refine⟨Nat,λi=>⟨[(5,i64 i),(3,i64 n),(4,.own 0),(0,.sl dgE a)],[(0,qD (a.take i))],1,34,0⟩,λi=>i<=n,λi=>n - i,0,?_,?_,?_⟩
   ·exact Xe _
   ·exact zf [0]
   rintro i hi
   have hi:i<=n:=hi;refine⟨λk1=>?_,λk1=>?_⟩
   ·refine Ob.o ?_;intro y hy;refine⟨Dig,dgE,[y],rfl,Ob.mk (zhb y) ?_⟩;refine⟨_,rfl,Ob.mk (zhc (by simp;omega)) ?_⟩;refine Ar.o ?_
    refine⟨i+1,by show i+1<=n;omega,qA [(0,some 2)] rfl rfl rfl ⟨rfl,rfl,rfl,rfl,trivial⟩
     ⟨congrArg (λl=>some (qD l)) (by rw[Xm,show a[i]? =some y from hy];rfl),trivial⟩,by dsimp only;omega⟩
   ·have hin:i=n:=by omega
    subst hin;exact⟨some 0,.own _ rfl,rfl,λ_ _=>rfl⟩
 ·have h5:n=0:=by omega
  rw[post n h1 h2 (.inl h5)];refine⟨Dig,dgE,[],rfl,Ob.mk zeV ?_⟩;refine⟨Nat,λi=>⟨[(5,i64 i),(3,i64 n),(4,.own 0),(0,.sl dgE a)],[(0,qD (a.take i))],1,34,0⟩,λi=>i<=n,λi=>n - i,0,?_,?_,?_⟩
  ·exact Xe _
  ·exact zf [0]
  rintro i hi
  have hi:i<=n:=hi;refine⟨λk1=>?_,λk1=>?_⟩
  ·refine Ob.o ?_;intro y hy;refine⟨Dig,dgE,[y],rfl,Ob.mk (zhb y) ?_⟩;refine⟨_,rfl,Ob.mk (zhc (by simp;omega)) ?_⟩;refine Ar.o ?_
   refine⟨i+1,by show i+1<=n;omega,qA [(0,some 2)] rfl rfl rfl ⟨rfl,rfl,rfl,rfl,trivial⟩
    ⟨congrArg (λl=>some (qD l)) (by rw[Xm,show a[i]? =some y from hy];rfl),trivial⟩,by dsimp only;omega⟩
  ·have hin:i=n:=by omega
   subst hin;exact⟨some 0,.own _ rfl,rfl,λ_ _=>rfl⟩
theorem yN(a:List Dig)(i:Int)(hi:0<=i):CG0 283 [.sl dgE a,i64 i] [] (u64 (dig a i.toNat)) []:=by
 refine zc Tryz.func283 ?_;refine⟨λh=>?_,λh=>?_⟩
 ·omega
 intro hl;refine⟨λh2=>?_,λh2=>?_⟩
 ·exact zj (by rw[zaF oM];rfl)
 ·refine Ob.o ?_;intro x hx;have:=x.isLt;exact Ar.o<|zj (by rw[zY hx])
theorem za8{n:Nat}{e:Int}(h:e=n):((dof n).val:Int)=IntKind.u32.wrap e:=by rw[zjJ,kE,h];omega
theorem zf6{a b:List Dig}{j:Nat}(h:∀i,j+1<=i->dig a i=dig b i)(hl:dig a j < dig b j):val a < val b:=by
 have e1:=kV a j;have e2:=kV b j;have e3:=ja a j;have e4:=zG a j;have e5:=zG b j;have e6:=zdA h;have:val (a.drop j)+1<=val (b.drop j):=oM;have:=Kb (4294967296 ^ j) this;rw[KF]at this;omega
theorem zwG(a b:List Dig)(ha:a.length<=1000000000)(hb:b.length<=1000000000):
  CG0 284 [.sl dgE a,.sl dgE b] [] (i64 (zf5 (val a) (val b))) []:=by
 refine zc Tryz.func284 ?_;intro hl1 hl2;refine Ar.fit (by simp only[zc7];omega)<|⟨Nat,λj=>⟨[(5,i64 ((j:Int) - 1)),(0,.sl dgE a),(1,.sl dgE b)],[],0,30,0⟩,λj=>j<=1000000000/\∀i,j<=i->dig a i=dig b i,λj=>j,max a.length b.length,?_,?_,?_⟩
 ·exact⟨oM,λi hi=>by rw[zaF oM,zaF oM]⟩
 ·exact jL [] ⟨congrArg (λn=>some (i64 n)) (by simp only[zc7];omega),rfl,rfl,trivial⟩ trivial
 rintro j ⟨h1,h2⟩
 refine⟨λh3=>?_,λh3=>?_⟩
 ·have e:((j:Int) - 1).toNat=j - 1:=by omega
  have h2':∀i,j - 1+1<=i->dig a i=dig b i:=λi hi=>h2 i oM
  refine zb.t (yN a _ oM)<|zb.t (yN b _ oM)<|⟨λh4=>?_,λh4=>?_⟩
  ·have:=zf6 h2' (by rw[e]at h4;omega);exact zj (by rw[zf5,if_pos this])
  refine zb.t (yN a _ oM)<|zb.t (yN b _ oM)<|⟨λh5=>?_,λh5=>?_⟩
  ·have:=zf6 (λi hi=>(h2' i hi).symm) (by rw[e]at h5;omega);exact zj (by rw[zf5,if_neg oM,if_pos this])
  refine Ar.o<|⟨j - 1,⟨oM,λi hi=>?_⟩,jL [] ⟨congrArg (λn=>some (i64 n)) oM,rfl,rfl,trivial⟩ trivial,by dsimp only;omega⟩
  by_cases hij:i=j - 1
  ·subst hij;rw[e]at h4 h5;omega
  ·exact h2 i oM
 ·have hj:j=0:=by omega
  subst hj;have:=zlU λi=>h2 i (Xe _)
  exact zj (by rw[zf5,if_neg oM,if_neg oM])
theorem zBN(a b:List Dig)(ha:a.length<=900000000)(hb:b.length<=900000000):
  CG0 224 [.sl dgE a,.sl dgE b] [] (.own 0) [(0,qD (zm (val a+val b)))]:=by
 refine qY tok mix Tryz.func224 rfl rfl rfl<|⟨Dig,dgE,[],rfl,Ob.mk zeV ?_⟩
 refine⟨Nat×List Dig×Nat,λq=>⟨[(7,i64 q.1),(6,u64 q.2.2),(5,.own 0),(0,.sl dgE a),(1,.sl dgE b)],[(0,qD q.2.1)],1,42,0⟩,
  λq=>q.1<=max a.length b.length/\q.2.1.length=q.1/\q.2.2<=1/\val q.2.1+4294967296 ^ q.1*q.2.2=val (a.take q.1)+val (b.take q.1),λq=>max a.length b.length - q.1,(0,[],0),?_,?_,?_⟩
 ·exact⟨Xe _,rfl,Xe _,rfl⟩
 ·exact zf [0]
 rintro⟨i,out,c⟩ ⟨h1,h2,h3,h4⟩
 dsimp only at h1 h2 h3 h4;intro hl1 hl2;refine⟨λh5=>?_,λh5=>?_⟩
 ·simp only[zc7]at h5;have d1:=yW a i;have d2:=yW b i;refine zb.t (yN a _ oM)<|zb.t (yN b _ oM) ?_;simp only[XW];(iterate 2 refine Ar.o ?_);refine Ar.wrap<|⟨Dig,dgE,[dof (dig a i+dig b i+c)],congrArg (λn=>[u32 n]) (za8 oM),Ob.mk (zhb _) ?_⟩;refine⟨_,rfl,Ob.mk (zhc (by simp;omega)) ?_⟩;refine Ob.o1<|Ar.o ?_
  refine⟨(i+1,out++[dof (dig a i+dig b i+c)],(dig a i+dig b i+c) / 4294967296),⟨by dsimp only;omega,by simp[h2],by dsimp only;omega,?_⟩,
   zL [2] ⟨rfl,congrArg (λn=>some (u64 n)) (by dsimp only;omega),rfl,rfl,rfl,trivial⟩ ⟨rfl,trivial⟩,by dsimp only;omega⟩
  dsimp only;rw[vv,h2,kE,zU,zU,XS];have e:=X3 (dig a i+dig b i+c) 4294967296;generalize (dig a i+dig b i+c) / 4294967296=x at*;generalize (dig a i+dig b i+c) % 4294967296=y at*;generalize 4294967296 ^ i=p at*
  grind
 ·simp only[zc7]at h5;have hi:i=max a.length b.length:=oM;refine Ar.wrap<|⟨Dig,dgE,[dof c],congrArg (λn=>[u32 n]) (za8 rfl),Ob.mk (zhb _) ?_⟩;refine⟨_,rfl,Ob.mk (zhc (by simp;omega)) ?_⟩;refine zb.fresh _ _ (jH _ (by simp;omega)) rfl (qZ _) (.inr (qN _))<|⟨some 3,.own _ rfl,?_,λ_ _=>rfl⟩
  have e:val (out++[dof c])=val a+val b:=by
   rw[vv,h2,kE,Xu oM,h4,kY oM,kY oM]
  rw[← e];rfl
theorem uP(a:List Dig)(ha:a.length<=1000000000):CG0 165 [.sl dgE a] [] (.sl dgE (zm (val a))) []:=
 (jH a ha).plain rfl
theorem ziF(a b:List Dig)(ha:a.length<=900000000)(hb:b.length<=900000000):
  CG0 224 [.sl dgE a,.sl dgE b] [] (.sl dgE (zm (val a+val b))) []:=(zBN a b ha hb).plain rfl
theorem zwH(a b:List Dig)(ha:a.length<=900000000)(hb:b.length<=900000000):
  CG0 225 [.sl dgE a,.sl dgE b] [] (.tup [.own 0,pr (val b<=val a)]) [(0,qD (zm (val a - val b)))]:=by
 refine qY tok mix Tryz.func225 rfl rfl rfl<|zb.t (zwG a b oM oM)<|⟨λh=>?_,λh=>?_⟩
 ·have hlt:val a < val b:=zel.1 h;refine⟨none,zjB (.cons (.nil rfl) (.cons (.le _ _ (zd oM) rfl) .nil)),?_⟩;show zm (val a - val b)=[];rw[Yn oM];exact ju
 have hle:val b<=val a:=QR λh'=>h (zel.2 h')
 refine⟨Dig,dgE,[],rfl,Ob.mk zeV ?_⟩
 refine⟨Nat×List Dig×Nat,λ⟨i,out,c⟩=>⟨[(8,i64 i),(7,u64 c),(6,.own 0),(0,.sl dgE a),(1,.sl dgE b)],[(0,qD out)],1,41,0⟩,
  λq=>q.1<=a.length/\q.2.1.length=q.1/\q.2.2<=1/\val q.2.1+val (b.take q.1)=val (a.take q.1)+4294967296 ^ q.1*q.2.2,λq=>a.length - q.1,(0,[],0),?_,?_,?_⟩
 ·exact⟨Xe _,rfl,Xe _,rfl⟩
 ·exact zf [0]
 rintro⟨i,out,c⟩ ⟨h1,h2,h3,h4⟩
 dsimp only at h1 h2 h3 h4;intro hl1;refine⟨λh5=>?_,λh5=>?_⟩
 ·have d1:=yW a i;have d2:=yW b i;refine zb.t (yN a _ oM) ?_;simp only[XW];refine Ar.o<|zb.t (yN b _ oM) ?_;simp only[XW];(iterate 2 refine Ar.o ?_);refine Ar.wrap<|⟨Dig,dgE,[dof (4294967296+dig a i - dig b i - c)],congrArg (λn=>[u32 n]) (za8 oM),Ob.mk (zhb _) ?_⟩;refine⟨_,rfl,Ob.mk (zhc (by simp;omega)) ?_⟩;refine Ob.o1<|Ar.fit (by simp only[Int.reducePow];omega)<|Ar.o ?_
  refine⟨(i+1,out++[dof (4294967296+dig a i - dig b i - c)],1 - (4294967296+dig a i - dig b i - c) / 4294967296),⟨by dsimp only;omega,by simp[h2],by dsimp only;omega,?_⟩,
   zL [2] ⟨rfl,congrArg (λn=>some (u64 n)) (by dsimp only;omega),rfl,rfl,rfl,trivial⟩ ⟨rfl,trivial⟩,by dsimp only;omega⟩
  dsimp only;rw[vv,h2,kE,zU,zU,XS];have e:(4294967296+dig a i - dig b i - c) % 4294967296+dig b i+c=dig a i+4294967296*(1 - (4294967296+dig a i - dig b i - c) / 4294967296):=oM;generalize 1 - (4294967296+dig a i - dig b i - c) / 4294967296=x at*;generalize (4294967296+dig a i - dig b i - c) % 4294967296=y at*;generalize 4294967296 ^ i=p at*
  have e2:p*y+p*dig b i+p*c=p*dig a i+p*4294967296*x:=by
   rw[← KF,← KF,e,KF,KD]
  omega
 ·have hi:i=a.length:=by omega
  refine zb.fresh _ _ (jH _ oM) rfl (qZ _) (.inr (qN _))<|⟨some 1,zjB (.cons (.own _ rfl) (.cons (.le _ _ (zR hle) rfl) .nil)),?_,λ_ _=>rfl⟩
  have e:val out=val a - val b:=by
   subst hi;have e0:val (a.take a.length)=val a:=kY (Xh _);rw[e0]at h4;have e1:=kV b a.length;have e2:=jk a
   have e3:val (b.drop a.length)=0:=by
    rcases Kr (val (b.drop a.length)) with h | h
    ·exact h
    ·have:=Kb (4294967296 ^ a.length) h;omega
   have e4:=jk out;rw[h2]at e4;rw[e3]at e1;have:c=0∨c=1:=oM
   rcases this with rfl | rfl <;> omega
  rw[← e];rfl
theorem zns(a b:List Dig)(ha:a.length<=900000000)(hb:b.length<=900000000):
  CG0 225 [.sl dgE a,.sl dgE b] [] (.tup [.sl dgE (zm (val a - val b)),pr (val b<=val a)]) []:=(zwH a b ha hb).plain rfl
theorem zwI{x y c:Nat}(hx:x < 4294967296)(hy:y < 4294967296)(hc:c < 4294967296):x*y+c<=18446744069414584320:=by
 have:x*y<=4294967295*4294967295:=Qh oM oM;omega
theorem zem{x y:Nat}(hx:x < 4294967296)(hy:y < 4294967296):x*y<=18446744065119617025:=by
 have:x*y<=4294967295*4294967295:=Qh oM oM;omega
theorem zpf{p q x y z c u v w o o0 r:Nat}(h4:o+p*q*c=o0+p*(x*w))(hs:r+p*q*z=o+p*q*v)(e:4294967296*u+v=x*y+z+c):
  r+p*q*4294967296*u=o0+p*(x*(w+q*y)):=by grind
theorem zwJ(a:List Dig)(d:Nat)(ha:a.length<=900000000)(hd:d < 4294967296):
  CG0 333 [.sl dgE a,u64 d] [] (.own 0) [(0,qD (zm (val a*d)))]:=by
 refine qY tok mix Tryz.func333 rfl rfl rfl<|⟨Dig,dgE,[],rfl,Ob.mk zeV ?_⟩
 refine⟨Nat×List Dig×Nat,λ⟨i,out,c⟩=>⟨[(7,i64 i),(6,u64 c),(5,.own 0),(0,.sl dgE a),(1,u64 d)],[(0,qD out)],1,39,0⟩,
  λq=>q.1<=a.length/\q.2.1.length=q.1/\q.2.2 < 4294967296/\val q.2.1+4294967296 ^ q.1*q.2.2=val (a.take q.1)*d,λq=>a.length - q.1,(0,[],0),?_,?_,?_⟩
 ·exact⟨Xe _,rfl,dC,by simp[val]⟩
 ·exact zf [0]
 rintro⟨i,out,c⟩ ⟨h1,h2,h3,h4⟩
 dsimp only at h1 h2 h3 h4;intro hl1;refine⟨λh5=>?_,λh5=>?_⟩
 ·refine Ob.o ?_;intro x hx;have hx:a[i]? =some x:=hx;have dx:=zY hx;have hm:=zwI x.isLt hd h3;have hm0:=zem x.isLt hd;have hxl:=x.isLt;(iterate 3 refine Ar.o ?_);refine Ar.wrap<|⟨Dig,dgE,[dof (x.val*d+c)],congrArg (λn=>[u32 n]) (za8 oM),Ob.mk (zhb _) ?_⟩;refine⟨_,rfl,Ob.mk (zhc (by simp;omega)) ?_⟩;refine Ob.o1<|Ar.o ?_
  refine⟨(i+1,out++[dof (x.val*d+c)],(x.val*d+c) / 4294967296),⟨by dsimp only;omega,by simp[h2],by dsimp only;omega,?_⟩,
   zL [2] ⟨rfl,congrArg (λn=>some (u64 n)) (by dsimp only;omega),rfl,rfl,rfl,trivial⟩ ⟨rfl,trivial⟩,by dsimp only;omega⟩
  dsimp only;rw[vv,h2,kE,zU,XS,dx];have e:=X3 (x.val*d+c) 4294967296;generalize (x.val*d+c) / 4294967296=u at*;generalize (x.val*d+c) % 4294967296=v at*;generalize 4294967296 ^ i=p at*;generalize x.val=x at*;generalize val (a.take i)=w at*;clear hm hm0
  grind
 ·have hi:i=a.length:=by omega
  refine Ar.wrap<|⟨Dig,dgE,[dof c],congrArg (λn=>[u32 n]) (za8 rfl),Ob.mk (zhb _) ?_⟩;refine⟨_,rfl,Ob.mk (zhc (by simp;omega)) ?_⟩;refine zb.fresh _ _ (jH _ (by simp;omega)) rfl (qZ _) (.inr (qN _))<|⟨some 3,.own _ rfl,?_,λ_ _=>rfl⟩
  have e:val (out++[dof c])=val a*d:=by
   rw[vv,h2,kE,Xu oM,h4,kY oM]
  rw[← e];rfl
theorem zuC(a:List Dig)(d:Nat)(ha:a.length<=900000000)(hd:d < 4294967296):
  CG0 333 [.sl dgE a,u64 d] [] (.sl dgE (zm (val a*d))) []:=(zwJ a d ha hd).plain rfl
theorem zBO(a b:List Dig)(ha:a.length<=400000000)(hb:b.length<=400000000):
  CG0 102 [.sl dgE a,.sl dgE b] [] (.own 0) [(0,qD (zm (val a*val b)))]:=by
 refine qY tok mix Tryz.func102 rfl rfl rfl ?_;intro hl1 hl2;(iterate 2 refine Ar.o ?_);refine⟨Dig,dgE,0,rfl,Ob.o6 ?_⟩
 refine⟨Nat×List Dig,λ⟨i,out⟩=>⟨[(6,i64 i),(5,.own 0),(0,.sl dgE a),(1,.sl dgE b)],[(0,qD out)],1,69,0⟩,
  λq=>q.1<=a.length/\q.2.length=a.length+b.length+1/\val q.2=val (a.take q.1)*val b/\∀j,q.1+b.length<=j->dig q.2 j=0,λq=>a.length - q.1,(0,List.replicate (a.length+b.length+1) 0),?_,?_,?_⟩
 ·exact⟨Xe _,by simp,by simp[zaN,val],λj _=>yU _ _⟩
 ·exact zC [0] ⟨congrArg (λn=>some (qD (List.replicate n 0))) oM,trivial⟩
 rintro⟨i,out0⟩ ⟨h1,h2,h3,h4⟩
 dsimp only at h1 h2 h3 h4;intro hl3;refine⟨λh5=>?_,λh5=>?_⟩
 ·refine⟨Nat×List Dig×Nat,λ⟨k,out,c⟩=>⟨[(8,i64 k),(7,u64 c),(6,i64 i),(5,.own 0),(0,.sl dgE a),(1,.sl dgE b)],[(0,qD out)],1,69,0⟩,
   λq=>q.1<=b.length/\q.2.1.length=a.length+b.length+1/\q.2.2 < 4294967296/\val q.2.1+4294967296 ^ (i+q.1)*q.2.2=val out0+4294967296 ^ i*(dig a i*val (b.take q.1))/\∀j,i+b.length<=j->dig q.2.1 j=0,λq=>b.length - q.1,(0,out0,0),?_,?_,?_⟩
  ·exact⟨Xe _,h2,by dsimp only;omega,by simp[val],h4⟩
  ·exact zf [0]
  rintro⟨k,out,c⟩ ⟨g1,g2,g3,g4,g5⟩
  dsimp only at g1 g2 g3 g4 g5;intro hl4;refine⟨λg6=>?_,λg6=>?_⟩
  ·refine Dr.k<|Ob.o ?_;intro x hx;have hx:a[i]? =some x:=hx;have dx:=zY hx;have hxl:=x.isLt;refine Ar.o<|Ob.o ?_;intro y hy;have hy:b[k]? =some y:=hy;have dy:=zY hy;have hyl:=y.isLt;refine Ar.o ?_;have hm0:=zem hxl hyl;(iterate 2 refine Ar.o ?_);refine Ob.o<|Ob.o ?_;intro z hz;rw[show((i:Int)+k).toNat=i+k by omega]at hz;have dz:=zY hz;have hzl:=z.isLt;(iterate 4 refine Ar.o ?_);refine Ar.wrap<|Ob.o<|Ob.o ?_;intro z' hz'
   refine⟨dof (x.val*y.val+z.val+c),congrArg (λn=>[u32 n]) (za8 oM),?_⟩;refine Ob.o1<|Ar.o ?_
   refine⟨(k+1,out.set (i+k) (dof (x.val*y.val+z.val+c)),(x.val*y.val+z.val+c) / 4294967296),⟨by dsimp only;omega,by simp[g2],by dsimp only;omega,?_,?_⟩,
    zL [0] ⟨rfl,congrArg (λn=>some (u64 n)) (by dsimp only;omega),rfl,rfl,rfl,rfl,trivial⟩ ⟨congrArg (λn=>some (qD (out.set n _))) oM,trivial⟩,by dsimp only;omega⟩
   ·dsimp only;have hs:=zab out (i+k) (dof (x.val*y.val+z.val+c)) oM;rw[kE,dz]at hs;rw[zU,dy,← KN i k 1,XS];rw[dx]at g4 ⊢;have e:=X3 (x.val*y.val+z.val+c) 4294967296;rw[X7]at g4 hs ⊢;exact zpf g4 hs e
   ·intro j hj;dsimp only;rw[jW,if_neg oM];exact g5 j hj
  ·have hk:k=b.length:=by omega
   intro hl5;refine Ar.o<|Ar.wrap<|Ob.o<|Ob.o ?_;intro z' hz';refine⟨dof c,congrArg (λn=>[u32 n]) (za8 rfl),?_⟩;refine Ar.o ?_
   refine⟨(i+1,out.set (i+b.length) (dof c)),⟨by dsimp only;omega,by simp[g2],?_,?_⟩,
    zC [0] ⟨congrArg (λn=>some (qD (out.set n _))) oM,trivial⟩,by dsimp only;omega⟩
   ·dsimp only;have hs:=zab out (i+b.length) (dof c) oM;rw[kE,g5 _ (Xh _),Xu g3]at hs;rw[hk,kY (Xh _),h3]at g4;rw[zU];generalize val (out.set (i+b.length) _)=r at*;generalize 4294967296 ^ i=p at*;generalize 4294967296 ^ (i+b.length)=q at*;generalize val (a.take i)=w at*;generalize dig a i=x at*;generalize val out=o at*;clear h4 g5
    grind
   ·intro j hj;dsimp only;rw[jW,if_neg oM];exact g5 j oM
 ·have hi:i=a.length:=by omega
  refine zb.fresh _ _ (jH _ oM) rfl (qZ _) (.inr (qN _))<|⟨some 1,.own _ rfl,?_,λ_ _=>rfl⟩;rw[hi,kY (Xh _)]at h3;rw[← h3];rfl
theorem zzy(a b:List Dig)(ha:a.length<=400000000)(hb:b.length<=400000000):
  CG0 102 [.sl dgE a,.sl dgE b] [] (.sl dgE (zm (val a*val b))) []:=(zBO a b ha hb).plain rfl
theorem zf7(a:List Dig):kN (val a)<=32*a.length:=by
 by_cases h:val a=0
 ·rw[h,zrC];omega
 ·have h1:=zbV h;have h2:=jk a;rw[za7]at h2;have:=(Qr (by decide:1 < 2)).1 (KX h1 h2);omega
theorem zlV(a:List Dig)(ha:a.length<=900000000):CG0 280 [.sl dgE a] [] (i64 (kN (val a))) []:=by
 refine zc Tryz.func280 ?_;refine zb.t (uP _ oM) ?_;intro hl;have hlen:=zJ a;refine⟨λh=>?_,λh=>?_⟩
 ·have:zm (val a)=[]:=XJ.1 oM;exact zj (by rw[yM.1 this];rfl)
 have hne:zm (val a)≠[]:=λe=>h (by rw[e];rfl)
 have hn:=(vR (val a)).resolve_left hne;have htop:=zbX hn;rw[zr]at htop;intro hl2;(iterate 2 refine Ar.o ?_);intro hl3;refine Ar.o<|Ob.o ?_;intro x hx;rw[show(((zm (val a)).length:Int) - 1).toNat=(zm (val a)).length - 1 by omega]at hx;have dx:=zY hx;have hxl:=x.isLt;have hb:=zf7 a;refine⟨Nat×Nat,λ⟨n,t⟩=>⟨[(4,i64 n),(5,u32 t)],[],0,28,0⟩,λq=>q.2 < 4294967296/\q.1+kN q.2=kN (val a),λq=>q.2,(32*((zm (val a)).length - 1),x.val),?_,?_,?_⟩
 ·exact⟨hxl,by dsimp only;rw[htop,dx]⟩
 ·exact jL [] ⟨congrArg (λn=>some (i64 n)) oM,rfl,trivial⟩ trivial
 rintro⟨n,t⟩ ⟨g1,g2⟩
 dsimp only at g1 g2;refine⟨λg3=>?_,λg3=>?_⟩
 ·have hh:=zrD (n:=t) oM;exact Ar.o<|Dv.pos ⟨oM,oM,by show _<=(4294967295:Int);omega⟩<|⟨(n+1,t / 2),⟨by dsimp only;omega,by dsimp only;omega⟩,jL [] ⟨rfl,congrArg (λn=>some (u32 n)) oM,trivial⟩ trivial,by dsimp only;omega⟩
 ·have:t=0:=by omega
  subst this;exact zj (by rw[← g2];rfl)
theorem zzz{p s x c u v w o M:Nat}(h4:o+p*M*c=p*(s*w))(e:4294967296*u+v=x*s+c):
  o+p*M*v+p*(M*4294967296)*u=p*(s*(w+M*x)):=by grind
theorem zA9(a:List Dig)(n:Nat)(ha:a.length<=800000000)(hn:n<=4096):
  CG0 332 [.sl dgE a,i64 n] [] (.own 0) [(0,qD (zm (val a*2 ^ n)))]:=by
 refine qY tok mix Tryz.func332 rfl rfl rfl ?_;have hs0:2 ^ (n % 32)<=2 ^ 31:=XI dC oM;have hs1:0 < 2 ^ (n % 32):=KS dC;generalize hs:2 ^ (n % 32)=s at*;refine Dv.pos ⟨oM,oM,by show _<=(9223372036854775807:Int);omega⟩<|⟨Dig,dgE,0,rfl,Ob.o6 ?_⟩
 refine⟨Nat×List Dig×Nat,λ⟨i,out,c⟩=>⟨[(7,i64 i),(6,u64 c),(5,.own 0),(0,.sl dgE a),(1,i64 n)],[(0,qD out)],1,43,0⟩,
  λq=>q.1<=a.length/\q.2.1.length=n / 32+q.1/\q.2.2 < s/\val q.2.1+4294967296 ^ (n / 32)*4294967296 ^ q.1*q.2.2=4294967296 ^ (n / 32)*(s*val (a.take q.1)),λq=>a.length - q.1,(0,List.replicate (n / 32) 0,0),?_,?_,?_⟩
 ·exact⟨Xe _,by simp,hs1,by simp[zaN,val]⟩
 ·exact zC [0] ⟨congrArg (λn=>some (qD (List.replicate n 0))) oM,trivial⟩
 rintro⟨i,out,c⟩ ⟨h1,h2,h3,h4⟩
 dsimp only at h1 h2 h3 h4;intro hl1;refine⟨λh5=>?_,λh5=>?_⟩
 ·refine Ob.o ?_;intro x hx;have hx:a[i]? =some x:=hx;have dx:=zY hx;have hxl:=x.isLt;refine Ar.o<|Dv.pos ⟨oM,oM⟩<|Ar.o<|Ob.o11 ?_;have hm:x.val*s<=4294967295*2 ^ 31:=Qh oM hs0
  have hm2:(x.val:Int)*2 ^ ((n:Int) % 32).toNat=((x.val*s:Nat):Int):=by
   rw[← hs,show((n:Int) % 32).toNat=n % 32 by omega];simp
  have hm3:x.val*s+c < 4294967296*s:=by
   have:x.val*s<=4294967295*s:=Xp _ oM;omega
  refine Ar.fit (by rw[hm2];omega)<|Ar.fit (by rw[hm2];omega)<|Ar.wrap<|⟨Dig,dgE,[dof (x.val*s+c)],congrArg (λn=>[u32 n]) (za8 (by rw[hm2];omega)),Ob.mk (zhb _) ?_⟩;refine⟨_,rfl,Ob.mk (zhc (by simp;omega)) ?_⟩;refine Ob.o1<|Ar.o ?_
  refine⟨(i+1,out++[dof (x.val*s+c)],(x.val*s+c) / 4294967296),⟨by dsimp only;omega,by simp[h2];omega,by dsimp only;omega,?_⟩,
   zL [2] ⟨rfl,congrArg (λn=>some (u64 n)) (by rw[hm2];dsimp only;omega),rfl,rfl,rfl,trivial⟩ ⟨rfl,trivial⟩,by dsimp only;omega⟩
  dsimp only;rw[vv,h2,kE,zU,dx,XS,X7];exact zzz h4 (X3 (x.val*s+c) 4294967296)
 ·have hi:i=a.length:=by omega
  refine Ar.wrap<|⟨Dig,dgE,[dof c],congrArg (λn=>[u32 n]) (za8 rfl),Ob.mk (zhb _) ?_⟩;refine⟨_,rfl,Ob.mk (zhc (by simp;omega)) ?_⟩;refine zb.fresh _ _ (jH _ (by simp;omega)) rfl (qZ _) (.inr (qN _))<|⟨some 3,.own _ rfl,?_,λ_ _=>rfl⟩
  have e:val (out++[dof c])=val a*2 ^ n:=by
   rw[vv,h2,kE,Xu oM,X7,h4,kY oM,← hs,za7];rw[← KD,← X7,show 32*(n / 32)+n % 32=n by omega,Ks]
  rw[← e];rfl
theorem zBP(a:List Dig)(n:Nat)(ha:a.length<=800000000)(hn:n<=4096):
  CG0 281 [.sl dgE a,i64 n] [] (.own 0) [(0,qD (zm (val a*2 ^ n)))]:=by
 refine qY tok mix Tryz.func281 rfl rfl rfl<|Br.mk (λh=>?_) (λh=>absurd oM h);have e:zbJ (n:Int) [4096]=n:=by simp only[zbJ];omega
 exact zb.fresh _ _ (show CG0 _ [.sl dgE a,i64 (zbJ (n:Int) [4096])] [] (.own 0) [(0,qD (zm (val a*2 ^ n)))] by rw[e];exact zA9 a n ha hn) rfl (qZ _) (.inr (qN _))<|⟨some 0,.own _ rfl,rfl,λ_ _=>rfl⟩
theorem zBQ(a:List Dig)(n:Nat)(ha:a.length<=800000000)(hn:n<=1000000000000):
  CG0 281 [.sl dgE a,i64 (-(n:Int))] [] (.own 0) [(0,qD (zm (val a / 2 ^ n)))]:=by
 refine qY tok mix Tryz.func281 rfl rfl rfl<|Br.mk (λh=>?_) (λh=>?_)
 ·have hn0:n=0:=by omega
  subst hn0
  refine zb.fresh _ _ (show CG0 _ [.sl dgE a,i64 (zbJ (-((0:Nat):Int)) [4096])] [] (.own 0) [(0,qD (zm (val a / 2 ^ 0)))] by
   have:=zA9 a 0 ha oM;rw[show zbJ (-((0:Nat):Int)) [4096]=0 by decide,Jk,Nat.div_one];rw[Jk,Jb]at this
   exact this) rfl (qZ _) (.inr (qN _)) ?_
  exact⟨some 0,.own _ rfl,rfl,λ_ _=>rfl⟩
 intro hl;refine Ar.o<|Br.mk (λh2=>?_) (λh2=>?_)
 ·refine⟨Dig,dgE,[],rfl,Ob.mk zeV ?_⟩;refine⟨some 0,.own _ rfl,?_,λ_ _=>rfl⟩
  have e:val a / 2 ^ n=0:=by
   refine Kg (Xr (jk a) ?_);rw[za7];exact XI dC oM
  rw[e,ju];rfl
 refine⟨Dig,dgE,[],rfl,Ob.mk zeV ?_⟩;refine Ar.o<|Dv.pos ⟨oM,oM,by show _<=(9223372036854775807:Int);omega⟩ ?_
 refine⟨Nat×List Dig,λ⟨i,out⟩=>⟨[(6,i64 ((n / 32+i:Nat))),(5,.own 0),(0,.sl dgE a),(1,i64 (-(n:Int)))],[(0,qD out)],1,51,0⟩,
  λq=>q.1+n / 32<=a.length/\q.2.length=q.1/\∀j,j < q.2.length->dig q.2 j=val a / 2 ^ n / 4294967296 ^ j % 4294967296,λq=>a.length - q.1,(0,[]),?_,?_,?_⟩
 ·exact⟨by dsimp only;omega,rfl,λj h=>by simp at h⟩
 ·exact zL [0] ⟨congrArg (λn=>some (i64 n)) oM,rfl,rfl,rfl,trivial⟩ ⟨rfl,trivial⟩
 rintro⟨i,out⟩ ⟨g1,g2,g3⟩
 dsimp only at g1 g2 g3;intro hl1;refine⟨λh5=>?_,λh5=>?_⟩
 ·have d1:=yW a (n / 32+i);have d2:=yW a (n / 32+i+1);have hw:(((n / 32+i:Nat):Int)+1).toNat=n / 32+i+1:=oM;refine Ar.o<|zb.t (yN a _ oM) ?_;rw[hw];refine Ob.o1<|Ar.fit (by simp only[Int.reducePow];omega)<|zb.t (yN a _ oM) ?_;simp only[XW];refine Ar.fit (by simp only[Int.reducePow];omega)<|Ar.o<|Dv.pos ⟨oM,oM⟩<|Ar.o<|Ob.o11<|Ar.wrap ?_;have es:((-(-(n:Int))) % 32).toNat=n % 32:=oM
  refine⟨Dig,dgE,[dof ((dig a (n / 32+i+1)*4294967296+dig a (n / 32+i)) / 2 ^ (n % 32))],congrArg (λn=>[u32 n]) (za8 (by rw[es];simp)),Ob.mk (zhb _) ?_⟩;refine⟨_,rfl,Ob.mk (zhc (by simp;omega)) ?_⟩;refine Ar.o ?_
  refine⟨(i+1,out++[dof ((dig a (n / 32+i+1)*4294967296+dig a (n / 32+i)) / 2 ^ (n % 32))]),⟨by dsimp only;omega,by simp[g2],?_⟩,
   zL [2] ⟨congrArg (λn=>some (i64 n)) oM,rfl,rfl,rfl,trivial⟩ ⟨rfl,trivial⟩,by dsimp only;omega⟩
  intro j hj;dsimp only at hj ⊢;rw[Xj,QG]at hj;rw[zrB]
  split
  ·exact g3 j oM
  ·have hji:j=i:=by omega
   subst hji;have:=zsQ a (n / 32) (n % 32) j oM;rw[show 32*(n / 32)+n % 32=n by omega]at this;rw[this,g2,JG,zeT,kE]
 ·refine zb.fresh _ _ (jH _ oM) rfl (qZ _) (.inr (qN _))<|⟨some 1,.own _ rfl,?_,λ_ _=>rfl⟩
  have e:val out=val a / 2 ^ n:=by
   rw[zdC g3,Xu];rw[XR (KS dC)];refine Xr (jk a) ?_;rw[za7,za7,← X7];exact XI dC oM
  rw[← e];rfl
theorem zsS(a:List Dig)(n:Nat)(ha:a.length<=800000000)(hn:n<=4096):
  CG0 281 [.sl dgE a,i64 n] [] (.sl dgE (zm (val a*2 ^ n))) []:=(zBP a n ha hn).plain rfl
theorem zwK{r b:List Dig}(hb:dig b (b.length - 1)≠0)(hlt:val r < 4294967296*val b):
  val r / val b<=(dig r b.length*4294967296+dig r (b.length - 1)) / dig b (b.length - 1):=by
 have hl:0 < b.length:=by
  rcases Kr b.length with h | h
  ·rw[XJ.1 h]at hb;exact absurd rfl hb
  ·exact h
 have e1:=kV b (b.length - 1);have e3:=zG b (b.length - 1);rw[show b.length - 1+1=b.length by omega,kj (Xh _),Ko,XP]at e3;have r1:=kV r (b.length - 1);have r2:=ja r (b.length - 1);have r3:=zG r (b.length - 1);have r4:=zG r b.length;rw[show b.length - 1+1=b.length by omega]at r3;have hbl:=jk b;have hpow:4294967296 ^ b.length=4294967296 ^ (b.length - 1)*4294967296:=by rw[← XS];congr 1;omega
 have r5:val (r.drop (b.length+1))=0:=by
  rw[zjI];refine Kg (Nat.lt_trans hlt ?_);rw[XS,Ks];exact KK hbl dC
 rw[r5,Ko,XP]at r4;rw[r4]at r3;rw[e3]at e1;rw[r3]at r1;have hp:=zdy (b.length - 1);generalize 4294967296 ^ (b.length - 1)=p at*;generalize dig b (b.length - 1)=t at*;generalize dig r (b.length - 1)=x at*;generalize dig r b.length=y at*;rw[Jm oM];have h6:=JE (val r) (val b);generalize val r / val b=q at*;have h7:q*(p*t)<=q*val b:=Kb _ oM
 have h8:p*(q*t) < p*(x+4294967296*y+1):=by
  have:q*(p*t)=p*(q*t):=by rw[← KD,Ks q p,KD]
  rw[KF p _ 1];omega
 have:=JS h8;omega
theorem zwL{a q:Nat}{e:Int}(he:e=a)(ha:q<=a)(hb:q < 4294967296):∃m:Nat,m < 4294967296/\q<=m/\zbJ e [4294967295]=m:=by
 rcases QM e 4294967295 with h | h
 ·exact⟨a,oM,ha,by simp only[zbJ];rw[Int.min_eq_left h,he]⟩
 ·exact⟨4294967295,oM,oM,by simp only[zbJ];rw[Int.min_eq_right h];simp⟩
theorem zwM(r b:List Dig)(hr:r.length<=800000000)(hb:b.length<=800000000)(ht:dig b (b.length - 1)≠0)(hlt:val r < 4294967296*val b):
  CG0 282 [.sl dgE r,.sl dgE b] [] (.tup [u64 ((val r / val b:Nat):Int),.own 0]) [(0,qD (zm (val r % val b)))]:=by
 refine qY tok mix Tryz.func282 rfl rfl rfl ?_
 have hl:0 < b.length:=by
  rcases Kr b.length with h | h
  ·rw[XJ.1 h]at ht;exact absurd rfl ht
  ·exact h
 have hbp:0 < val b:=by
  rcases Kr (val b) with h | h
  ·rw[h]at hlt;omega
  ·exact h
 have hest:=zwK ht hlt;have hq:val r / val b < 4294967296:=by rw[XR hbp];exact hlt
 have d1:=yW r b.length;have d2:=yW r (b.length - 1);have d3:=yW b (b.length - 1);intro hl0;refine Dr.k<|zb.t (yN r _ oM) ?_;rw[XW];refine Ob.o1<|Ar.fit (by simp only[Int.reducePow];omega)<|Ar.o<|zb.t (yN r _ oM) ?_;rw[show((b.length:Int) - 1).toNat=b.length - 1 by omega];refine Ar.fit (by simp only[Int.reducePow];omega)<|Ar.o<|Ob.o ?_;intro x hx;rw[show((b.length:Int) - 1).toNat=b.length - 1 by omega]at hx;have dx:=zY hx;rw[dx]at ht hest d3;refine Ar.o ?_
 refine Dv.pos ⟨by simp only[Int.reducePow];omega,oM,by show _<=(18446744073709551615:Int);simp only[Int.reducePow];omega⟩ ?_;obtain⟨m,hm1,hm2,em⟩:=zwL (e:=((dig r b.length:Nat)*2 ^ 32+(dig r (b.length - 1):Nat):Int) / ((x.val:Nat):Int)) (by simp) hest hq;clear hest
 refine zb.to _ (show CG0 _ [.sl dgE b,u64 (zbJ (((dig r b.length:Nat)*2 ^ 32+(dig r (b.length - 1):Nat):Int) / ((x.val:Nat):Int)) [4294967295])] [] (.sl dgE (zm (val b*m))) [] by
  rw[em];exact zuC b m oM oM) rfl ?_
 refine⟨Nat,λd=>⟨[(8,u64 d),(9,.sl dgE (zm (val b*d))),(0,.sl dgE r),(1,.sl dgE b)],[],0,55,0⟩,λd=>val r / val b<=d/\d < 4294967296,λd=>d,m,?_,?_,?_⟩
 ·exact⟨hm2,oM⟩
 ·exact jL [] ⟨congrArg (λn=>some (u64 n)) em,rfl,rfl,rfl,trivial⟩ trivial
 rintro d ⟨h1,h2⟩
 have hlen:(zm (val b*d)).length<=b.length+1:=jS (by
  rw[XS]
  exact K4 (jk b) h2)
 refine zb.t (zwG _ r oM oM) ?_;rw[zr];refine⟨λh3=>?_,λh3=>?_⟩
 ·have h3:=zsR.1 h3
  have hd:1<=d:=by
   rcases Kr d with h | h
   ·subst h;omega
   ·exact h
  have hq':val r / val b<=d - 1:=by
   have:val r / val b < d:=by rw[XR hbp,Ks];exact h3
   omega
  refine Ar.o<|zb.t (zns _ b oM oM) ?_;rw[zr];refine⟨d - 1,⟨hq',oM⟩,jL [] ⟨congrArg (λn=>some (u64 n)) oM,congrArg (λn=>some (SV.sl dgE (zm n))) (show val b*d - val b=val b*(d - 1) by rw[Nat.mul_sub,Jb]),rfl,rfl,trivial⟩ trivial,by dsimp only;omega⟩
 ·have h3:val b*d<=val r:=QR λh=>h3 (zsR.2 h)
  have hd:d=val r / val b:=by
   have:d<=val r / val b:=by rw[Jm hbp,Ks];exact h3
   omega
  refine zb.fresh _ _ (zwH r _ oM oM) rfl (qZ _) (.inr (qN _))<|⟨some 0,zjB (.cons (za5 (by rw[hd])) (.cons (.own _ rfl) .nil)),?_,λ_ _=>rfl⟩
  have e:val r - val (zm (val b*d))=val r % val b:=by
   rw[zr,hd];have:=X3 (val r) (val b);omega
  rw[← e];rfl
theorem zpg{u q V d l w B qd rr nx:Nat}(h:w=V*qd+rr)(hn:nx=u+B*rr)(hd:V*d+l=nx)(hq:q=d+B*qd):u+B*w=V*q+l:=by
 subst h;subst hq;grind
theorem zbM{xs:List Dig}{i:Nat}{d:Dig}(h:i < xs.length):val ((xs.set i d).drop i)=d.val+4294967296*val (xs.drop (i+1)):=by
 rw[zG,jW,if_pos ⟨rfl,h⟩,List.drop_set_of_lt oM]
theorem zhd(a b:List Dig)(ha:a.length<=400000000)(hb:b.length<=400000000)(hb0:val b≠0):
  CG0 223 [.sl dgE a,.sl dgE b] [] (.tup [.sl dgE (zm (val a / val b)),.sl dgE (zm (val a % val b)),i64 0]) []:=by
 refine zc Tryz.func223 ?_;refine zb.t (uP _ oM) ?_;intro hl;have hlen:=zJ b;refine⟨λh=>?_,λh=>?_⟩
 ·have:zm (val b)=[]:=XJ.1 oM;exact absurd (yM.1 this) hb0
 have hne:zm (val b)≠[]:=λe=>hb0 (yM.1 e)
 have hnorm:=(vR (val b)).resolve_left hne;have htop:=zbX hnorm;rw[zr]at htop;have hbits:=zf7 (zm (val b));rw[zr]at hbits;have hpos:=zbW.2 hb0;have hnt:0 < kN (dig (zm (val b)) ((zm (val b)).length - 1)):=zbW.2 hnorm;intro hl2;refine Ar.o<|zb.t (zlV _ oM) ?_;rw[zr];refine Ar.o ?_;obtain⟨s,hs⟩:∃s:Nat,(32*((zm (val b)).length:Int) - (kN (val b):Int))=s:=⟨32*(zm (val b)).length - kN (val b),oM⟩;rw[hs];have hs32:s < 32:=oM;refine zb.t (zsS a s oM oM)<|zb.t (zsS (zm (val b)) s oM oM) ?_;rw[zr]
 have hpow:2 ^ s<=4294967296 ^ 1:=by rw[za7];exact XI dC oM
 have hpow0:0 < 2 ^ s:=KS dC
 have hUl:(zm (val a*2 ^ s)).length<=a.length+1:=jS (by
  rw[X7]
  exact Xr (KK (jk a) hpow0) (Kb _ hpow))
 have hVl:(zm (val b*2 ^ s)).length<=b.length+1:=jS (by
  rw[X7]
  exact Xr (KK (jk b) hpow0) (Kb _ hpow))
 have hV0:val b*2 ^ s≠0:=Yc hb0 oM;have eq1:val a / val b=val a*2 ^ s / (val b*2 ^ s):=(Yl _ _ hpow0).symm;have eq2:val a % val b=val a*2 ^ s % (val b*2 ^ s) / 2 ^ s:=by rw[Ym,Nat.mul_div_cancel _ hpow0]
 rw[eq1,eq2];clear eq1 eq2 hpow hnt hnorm htop hpos hbits;generalize val a*2 ^ s=U at*;generalize val b*2 ^ s=V at*;have hvn:=(vR V).resolve_left λe=>hV0 (yM.1 e)
 intro hl3;refine⟨Dig,dgE,0,rfl,Ob.o6 ?_⟩;refine⟨Dig,dgE,[],rfl,Ob.mk zeV ?_⟩;intro hl4;refine Ar.o ?_
 refine⟨Nat×List Dig×List Dig,λ⟨j,q,r⟩=>⟨[(13,i64 ((j:Int) - 1)),(12,.own 1),(11,.own 0),(9,.sl dgE (zm U)),(10,.sl dgE (zm V)),(8,i64 s)],[(1,qD r),(0,qD q)],2,83,0⟩,
  λx=>x.1<=(zm U).length/\x.2.1.length=(zm U).length/\x.2.2.length<=(zm V).length/\val ((zm U).drop x.1)=V*val (x.2.1.drop x.1)+val x.2.2/\val x.2.2 < V,λx=>x.1,
  ((zm U).length,List.replicate (zm U).length 0,[]),?_,?_,?_⟩
 ·refine⟨Xh _,by simp,by simp,?_,by dsimp only;rw[znq];omega⟩;dsimp only;rw[kj (Xh _),kj (by simp),znq,Ko]
 ·exact zC [0,1] ⟨rfl,congrArg (λn=>some (qD (List.replicate n 0))) oM,trivial⟩
 rintro⟨j,q,r⟩ ⟨g1,g2,g3,g4,g5⟩
 dsimp only at g1 g2 g3 g4 g5;refine⟨λk1=>?_,λk1=>?_⟩
 ·refine Ob.o ?_;intro x hx;rw[show((j:Int) - 1).toNat=j - 1 by omega]at hx;have dx:=zY hx;have hxl:=x.isLt;refine⟨Dig,dgE,[x],rfl,Ob.mk (zhb x) ?_⟩
  refine⟨Nat,λk=>⟨[(15,i64 k),(14,.own 2),(13,i64 ((j:Int) - 1)),(12,.own 1),(11,.own 0),(9,.sl dgE (zm U)),(10,.sl dgE (zm V)),(8,i64 s)],[(2,qD (x::r.take k)),(1,qD r),(0,qD q)],3,83,0⟩,
   λk=>k<=r.length,λk=>r.length - k,0,?_,?_,?_⟩
  ·exact Xe _
  ·exact zf [0,1,2]
  intro k hk;have hk:k<=r.length:=hk;intro hl5;refine⟨λk2=>?_,λk2=>?_⟩
  ·refine Ob.o<|Ob.o ?_;intro y hy;have hy:r[k]? =some y:=hy;refine⟨Dig,dgE,[y],rfl,Ob.mk (zhb y) ?_⟩;refine⟨_,rfl,Ob.mk (zhc (by simp;omega)) ?_⟩;refine Ar.o ?_
   refine⟨k+1,by show k+1<=r.length;omega,qA [(0,some 0),(1,some 1),(2,some 4)] rfl rfl rfl ⟨rfl,rfl,rfl,rfl,rfl,rfl,rfl,rfl,trivial⟩
    ⟨congrArg (λl=>some (qD l)) (by rw[Xm,hy];rfl),rfl,rfl,trivial⟩,by dsimp only;omega⟩
  ·have hkr:k=r.length:=by omega
   subst hkr;have hnx:val (x::r) < 4294967296*V:=by rw[vu];omega
   have hnl:(zm (val (x::r))).length<=r.length+1:=zJ (x::r);refine zb.fresh _ _ (jH _ (by simp;omega)) rfl (qZ _) (.inr (qN _)) ?_;rw[X9];refine zb.fresh _ _ (zwM _ (zm V) oM oM hvn (by rw[zr,zr];exact hnx)) rfl (qZ _) (.inr (qN _)) ?_;rw[zr,zr];have hdl:val (x::r) / V < 4294967296:=by rw[XR oM];exact hnx
   have hml:val (x::r) % V < V:=Kn _ oM;have hdm:=X3 (val (x::r)) V;generalize val (x::r) / V=dq at*;generalize hmd:val (x::r) % V=md at*;refine Ar.o<|Ob.o<|Ob.o ?_;intro z hz;refine⟨dof dq,congrArg (λn=>[u32 n]) (by rw[kE,Xu hdl]),?_⟩;refine Ar.o ?_
   refine⟨(j - 1,q.set (j - 1) (dof dq),zm md),⟨by dsimp only;omega,by simp[g2],qx (Yy hml),?_,by dsimp only;rw[zr];exact hml⟩,
    zL [0,4] ⟨congrArg (λn=>some (i64 n)) oM,rfl,rfl,rfl,rfl,rfl,trivial⟩ ⟨rfl,congrArg (λn=>some (qD (q.set n _))) oM,trivial⟩,by dsimp only;omega⟩
   dsimp only;rw[zr,zG (zm U),dx,show j - 1+1=j by omega];refine zpg g4 (vu x r) hdm ?_;rw[zbM oM,kE,Xu hdl,show j - 1+1=j by omega]
 ·have hj:j=0:=by omega
  subst hj;rw[KT,KT,zr]at g4;refine zb.fresh _ _ (jH _ oM) rfl (qZ _) (.inr (qN _))<|Ar.o<|zb.fresh _ _ (zBQ r s oM oM) rfl (qZ _) (.inr (qN _)) ?_
  have e1:val q=U / V:=by
   rw[g4,Qk oM,Kg g5,XP]
  have e2:val r=U % V:=by
   rw[g4,Ql,Xu g5]
  exact vt (.cons (z9 (by rw[e1])) (.cons (z9 (by rw[e2])) (.cons .refl .nil)))
structure BI where
 neg:Bool
 mag:List Dig
 deriving DecidableEq
def BI.v(a:BI):Int:=if a.neg then -(val a.mag:Int) else val a.mag
def ofZ(z:Int):BI:=⟨decide (z < 0),zm z.natAbs⟩
theorem zW(z:Int):(ofZ z).v=z:=by
 unfold BI.v ofZ;simp only[zr,decide_eq_true_eq]
 split <;> omega
theorem BI.v_abs(a:BI):a.v.natAbs=val a.mag:=by unfold BI.v;split <;> omega
theorem BI.v_eq(a:BI):(a.neg=true/\a.v= -(val a.mag:Int))∨(a.neg=false/\a.v=(val a.mag:Int)):=by
 unfold BI.v;cases a.neg <;> simp
theorem zaG(z:Int):(ofZ z).neg=true↔z < 0:=by simp[ofZ]
theorem jX(z:Int):(ofZ z).mag=zm z.natAbs:=rfl
def js(z:Int):Nat:=(zm z.natAbs).length
theorem znt{z:Int}{k:Nat}(h:z.natAbs < 4294967296 ^ k):js z<=k:=jS h
theorem zf8{z:Int}{k:Nat}(h:js z<=k):z.natAbs < 4294967296 ^ k:=zcA h
theorem zaf(z:Int):js (-z)=js z:=by simp[js]
theorem kO(x y:Int):js (x*y)<=js x+js y:=by
 refine znt ?_;rw[Qx,X7];exact K4 (zf8 (Xh _)) (zf8 (Xh _))
theorem zf9(x y:Int):js (x+y)<=max (js x) (js y)+1:=by
 refine znt ?_;have h1:=zf8 (Q4 (js x) (js y));have h2:=zf8 (QQ (js x) (js y));rw[XS];have:=Int.natAbs_add_le x y;omega
theorem zjK(x y:Int):js (x - y)<=max (js x) (js y)+1:=by
 have:=zf9 x (-y)
 rwa [zaf,← Q6]at this
theorem zau(a:BI):js a.v<=a.mag.length:=by
 unfold js;rw[BI.v_abs];exact zJ _
theorem zbY{x y:Int}(h:x.natAbs<=y.natAbs):js x<=js y:=qx h
theorem qT{n:Int}(h: -9223372036854775808<=n/\n<=9223372036854775807):js n<=2:=znt (by
 rw[show 4294967296 ^ 2=18446744073709551616 by decide];omega)
def zM(a b:Int):Int:=
 if a < 0↔b < 0 then((2*a.natAbs+b.natAbs) / (2*b.natAbs):Nat) else -((2*a.natAbs+b.natAbs) / (2*b.natAbs):Nat)
theorem zdD(a b:Int):(zM a b).natAbs=(2*a.natAbs+b.natAbs) / (2*b.natAbs):=by
 unfold zM;generalize (2*a.natAbs+b.natAbs) / (2*b.natAbs)=q
 split <;> omega
def biE(a:BI):List SV:=[pr (a.neg=true),.sl dgE a.mag]
theorem zav(p:Prop)[i:Decidable p](m:List Dig)(hm:m.length<=1000000000):
  CG0 101 [.pr p i,.sl dgE m] [] (.agg (biE (ofZ (if p then -(val m:Int) else val m)))) []:=by
 refine zc Tryz.func101 ?_;refine zb.t (uP m hm)<|⟨λh=>?_,λh=>?_⟩
 ·intro hl;refine qF (.cons (zF ?_) (.cons (z9 ?_) .nil))
  ·rw[if_pos h,zaG];have:=jG (n:=val m);omega
  ·rw[if_pos h,jX];congr 1;omega
 ·refine qF (.cons (zd ?_) (.cons (z9 ?_) .nil))
  ·rw[if_neg h,zaG];omega
  ·rw[if_neg h,jX];congr 1
theorem zsT(a:BI)(hm:a.mag.length<=1000000000):
  CG0 101 [pr (a.neg=true),.sl dgE a.mag] [] (.agg (biE (ofZ a.v))) []:=zav (a.neg=true) a.mag hm
theorem dTwo(c d:Dig):[c,d].length=2/\2<=281474976710656/\2*1<=16777216/\0 < 1/\∀x∈[c,d],(dgE x).length=1/\jO (dgE x)=true/\ym.flats (dgE x)=true:=
 ⟨rfl,dC,dC,dC,λ_ _=>⟨rfl,rfl,rfl⟩⟩
theorem znu(m:Nat)(h:m < 18446744073709551616):val [dof m,dof (m / 4294967296)]=m:=by
 simp only[val,kE];omega
theorem jT(n:Int)(hn:R64 n):CG0 50 [i64 n] [] (.agg (biE (ofZ n))) []:=by
 refine zc Tryz.func50 ?_;refine Ar.wrap<|Br.mk (λh=>?_) (λh=>?_)
 ·refine Ar.wrap ?_;have e:IntKind.u64.wrap (0 - IntKind.u64.wrap n)=((n.natAbs:Nat):Int):=by rw[yx,yx];omega
  refine Ar.wrap<|Ob.o1<|Ar.wrap<|⟨Dig,dgE,[dof n.natAbs,dof (n.natAbs / 4294967296)],congr (congrArg (λn m=>[u32 n,u32 m]) (za8 e)) (za8 (by rw[e];simp only[Int.reducePow];omega)),Ob.mk (dTwo _ _) ?_⟩;refine zb.see 1 _ (zav (n < 0) [dof n.natAbs,dof (n.natAbs / 4294967296)] (by simp)) rfl rfl rfl ?_;rw[if_pos h,znu _ oM,show(-(n.natAbs:Int))=n by omega];exact .refl
 ·have e:IntKind.u64.wrap n=((n.natAbs:Nat):Int):=by rw[yx];omega
  refine Ar.wrap<|Ob.o1<|Ar.wrap<|⟨Dig,dgE,[dof n.natAbs,dof (n.natAbs / 4294967296)],congr (congrArg (λn m=>[u32 n,u32 m]) (za8 e)) (za8 (by rw[e];simp only[Int.reducePow];omega)),Ob.mk (dTwo _ _) ?_⟩;refine zb.see 1 _ (zav (n < 0) [dof n.natAbs,dof (n.natAbs / 4294967296)] (by simp)) rfl rfl rfl ?_;rw[if_neg h,znu _ oM,show(n.natAbs:Int)=n by omega];exact .refl
theorem zcB(a:BI)(ha:a.mag.length<=1000000000):CG0 98 [.agg (biE a)] [] (i64 a.v.sign) []:=by
 refine zc Tryz.func98 ?_;refine zb.t (zsT a ha) ?_;intro hl;have h1:=jG (n:=a.v.natAbs);refine⟨λh=>?_,λh=>?_⟩
 ·have:a.v=0:=by rw[jX]at h;omega
  exact zj (by rw[this];rfl)
 have h0:a.v≠0:=by rw[jX]at h;omega
 refine⟨λh2=>?_,λh2=>?_⟩
 ·rw[zaG]at h2;exact zj (Kd h2).symm
 ·rw[zaG]at h2;exact zj (Km oM).symm
theorem zBa(a b:BI):(if ¬(a.neg=true↔b.neg=true) then -((val a.mag*val b.mag:Nat):Int) else((val a.mag*val b.mag:Nat):Int))=a.v*b.v:=by
 rcases a.v_eq with⟨h1,h2⟩ | ⟨h1,h2⟩ <;> rcases b.v_eq with⟨h3,h4⟩ | ⟨h3,h4⟩ <;> simp[h1,h2,h3,h4,Int.neg_mul,QJ]
theorem zcC(a b:BI)(ha:a.mag.length<=400000000)(hb:b.mag.length<=400000000):CG0 49 [.agg (biE a),.agg (biE b)] [] (.agg (biE (ofZ (a.v*b.v)))) []:=by
 refine zc Tryz.func49 ?_;refine Dr.k<|zb.t (zzy a.mag b.mag ha hb) ?_
 have hl:(zm (val a.mag*val b.mag)).length<=1000000000:=by
  refine XB (jS (k:=a.mag.length+b.mag.length) ?_) oM;rw[X7];exact K4 (jk _) (jk _)
 refine zb.t (zav (¬(a.neg=true↔b.neg=true)) _ hl) ?_;rw[zr,zBa];exact .refl
theorem zBS(a b:BI)(hb:b.v≠0):(if ¬(a.neg=true↔b.neg=true) then -(((val a.mag+val a.mag+val b.mag) / (val b.mag+val b.mag):Nat):Int) else(((val a.mag+val a.mag+val b.mag) / (val b.mag+val b.mag):Nat):Int))=zM a.v b.v:=by
 unfold zM;rw[BI.v_abs,BI.v_abs,Nat.two_mul,Nat.two_mul]
 by_cases h0:val a.mag=0
 ·have e:(val a.mag+val a.mag+val b.mag) / (val b.mag+val b.mag)=0:=by
   rw[h0];refine Kg ?_
   rcases b.v_eq with⟨h1,h2⟩ | ⟨h1,h2⟩ <;> omega
  rw[e];simp
 ·generalize ((val a.mag+val a.mag+val b.mag) / (val b.mag+val b.mag))=q
  have e:(a.neg=true↔b.neg=true)↔(a.v < 0↔b.v < 0):=by
   rcases a.v_eq with⟨h1,h2⟩ | ⟨h1,h2⟩ <;> rcases b.v_eq with⟨h3,h4⟩ | ⟨h3,h4⟩ <;> simp only[h1,h3] <;> simp <;> omega
  by_cases h:(a.v < 0↔b.v < 0)
  ·rw[if_neg (not_not_intro (e.2 h)),if_pos h]
  ·rw[if_pos (λhh=>h (e.1 hh)),if_neg h]
theorem zbZ{a b:List Dig}{k:Nat}(ha:a.length<=k)(hb:b.length<=k):(zm (val a+val b)).length<=k+1:=by
 refine jS ?_;have h1:=Xr (jk a) (XI (show 0 < 4294967296 by decide) ha);have h2:=Xr (jk b) (XI (show 0 < 4294967296 by decide) hb);rw[XS];omega
theorem zph(a b:BI)(ha:a.mag.length<=300000000)(hb:b.mag.length<=300000000)(h0:b.v≠0):
  CG0 205 [.agg (biE a),.agg (biE b)] [] (.tup [.agg (biE (ofZ (zM a.v b.v))),i64 0]) []:=by
 refine zc Tryz.func205 ?_;refine zb.t (zcB b oM) ?_;refine⟨λh=>absurd (KP.1 h) h0,λ_=>?_⟩;refine Dr.k ?_;have l1:=zbZ ha ha;have l2:=zbZ hb hb;have l3:=zbZ l1 (show b.mag.length<=_ by omega);rw[zr]at l3;have hbp:val b.mag+val b.mag≠0:=by rcases b.v_eq with⟨h1,h2⟩ | ⟨h1,h2⟩ <;> omega
 refine zb.t (ziF a.mag a.mag oM oM)<|zb.t (ziF _ b.mag oM oM)<|zb.t (ziF b.mag b.mag oM oM) ?_;rw[zr];refine zb.t (zhd _ _ oM oM (by rw[zr];exact hbp)) ?_;rw[zr,zr];have l4:(zm ((val a.mag+val a.mag+val b.mag) / (val b.mag+val b.mag))).length<=1000000000:=XB (qx (KV _ _)) oM;refine zb.t (zav (¬(a.neg=true↔b.neg=true)) _ l4) ?_;rw[zr,zBS a b h0];exact .refl
theorem zjL{x y:Nat}(hx:x < 18446744073709551616)(hy:y < 18446744073709551616):zaA .or .u64 x y=((x|||y:Nat):Int):=by
 show IntKind.u64.wrap ((BitVec.ofInt 64 x|||BitVec.ofInt 64 y).toNat:Nat)=_;have h:x|||y < 2 ^ 64:=Nat.or_lt_two_pow hx hy
 have e:(BitVec.ofInt 64 x|||BitVec.ofInt 64 y).toNat=x|||y:=by
  rw[BitVec.toNat_or,QB,QB];congr 1
  ·omega
  ·omega
 rw[e,yx];omega
def y8(z:Int):Int:=if -9223372036854775808<=z/\z<=9223372036854775807 then z else 0
theorem zjM(a:BI)(ha:a.mag.length<=1000000000):
  CG0 180 [.agg (biE a)] [] (.tup [i64 (y8 a.v),pr (-9223372036854775808<=a.v/\a.v<=9223372036854775807)]) []:=by
 refine zc Tryz.func180 ?_;refine zb.t (zsT a ha) ?_;generalize a.v=z
 have bad:¬(-9223372036854775808<=z/\z<=9223372036854775807)->LE (.tup [i64 0,bl false]) (.tup [i64 (y8 z),pr (-9223372036854775808<=z/\z<=9223372036854775807)]):=λh=>
  zI (zj (by rw[y8,if_neg h])) (zd h)
 refine⟨Nat,λi=>⟨[(6,i64 i),(5,u64 (val ((zm z.natAbs).take i))),(4,.loc 1 0)],[(1,.box 41 (biE (ofZ z))),(0,.box 41 (biE a))],2,51,0⟩,
  λi=>i<=2/\i<=(zm z.natAbs).length,λi=>2 - i,0,?_,?_,?_⟩
 ·exact⟨oM,Xe _⟩
 ·exact zf [0,1]
 rintro i ⟨h1,h2⟩
 intro hl;refine⟨λh3=>?_,λh3=>?_⟩
 ·have h3:i < (zm z.natAbs).length:=by rw[jX]at h3;omega
  refine⟨λh4=>?_,λh4=>?_⟩
  ·refine bad λh5=>?_
   have:=jS (n:=z.natAbs) (k:=2) (by rw[show 4294967296 ^ 2=18446744073709551616 by decide];omega);omega
  ·refine Ob.mk (by rw[jX];omega) ?_;intro x hx;have hx:(zm z.natAbs)[i]? =some x:=hx;have dx:=zY hx;have hxl:=x.isLt;have ht:=ja (zm z.natAbs) i;have hts:=zU (zm z.natAbs) i;rw[dx]at hts
   have key:∀n:Int,n=32*i->0<=n/\n < 64/\0<=(x.val:Int)*2 ^ n.toNat/\(x.val:Int)*2 ^ n.toNat<=18446744073709551615/\
     zaA .or .u64 (val ((zm z.natAbs).take i)) ((x.val:Int)*2 ^ n.toNat)=val ((zm z.natAbs).take (i+1)):=λn hn=>by
    have:i=0∨i=1:=oM
    rcases this with rfl | rfl
    ·have:n=0:=by omega
     subst this;rw[hts];have e:=zjL (x:=0) (y:=x.val) oM oM;have p:(x.val:Int)*2 ^ (0:Int).toNat=(x.val:Int):=by simp
     rw[p,zlo];refine⟨oM,oM,oM,oM,?_⟩;rw[e];simp
    ·have:n=32:=by omega
     subst this;rw[hts];have e:=zjL (x:=val ((zm z.natAbs).take 1)) (y:=4294967296*x.val) oM oM;have e2:=KZ (i:=32) (b:=val ((zm z.natAbs).take 1)) (by rw[show 2 ^ 32=4294967296 by decide];omega) x.val;rw[show 2 ^ 32=4294967296 by decide]at e2
     have e3:(x.val:Int)*2 ^ (32:Int).toNat=((4294967296*x.val:Nat):Int):=by
      rw[show(32:Int).toNat=32 by decide];simp only[Int.reducePow];omega
     rw[e3];refine⟨oM,oM,oM,oM,?_⟩;rw[e,Nat.or_comm,← e2];omega
   obtain⟨k1,k2,k3,k4,k5⟩:=key (32*i) rfl;(iterate 3 refine Ar.o ?_);refine Ob.mk ⟨k1,k2⟩<|Ar.fit ⟨k3,k4⟩<|⟨_,k5.symm,?_⟩;exact Ar.o<|⟨i+1,⟨oM,oM⟩,zf [0,1],by dsimp only;omega⟩
 ·have h4:(zm z.natAbs).length=i:=by rw[jX]at h3;omega
  have e:val ((zm z.natAbs).take i)=z.natAbs:=by rw[kY oM,zr]
  have hz:z.natAbs < 18446744073709551616:=by
   have:=ja (zm z.natAbs) i;rw[e]at this;refine Xr this (XB (XI dC h1) dC)
  have good:∀n:Int,n=z-> -9223372036854775808<=z/\z<=9223372036854775807->LE (.tup [i64 n,bl true]) (.tup [i64 (y8 z),pr (-9223372036854775808<=z/\z<=9223372036854775807)]):=λn hn h=>
   zI (zj (by rw[y8,if_pos h,hn])) (zR h)
  have hn:=zaG z;refine⟨λg1=>?_,λg1=>?_⟩
  ·rw[hn]at g1;refine⟨λg2=>?_,λg2=>?_⟩
   ·refine Ar.wrap<|Ar.wrap<|good _ ?_ oM;rw[e,yx];show IntKind.i64.wrap _=_;simp only[IntKind.wrap,IntKind.bits,IntKind.signed];simp;omega
   ·refine⟨λg3=>absurd (hn.2 g1) g3,λ_=>bad oM⟩
  ·refine⟨λg3=>?_,λg3=>absurd (λh=>g1 h) g3⟩;rw[hn]at g1;refine⟨λg2=>?_,λg2=>bad oM⟩;exact Ar.o<|good _ oM oM
theorem zhe(a b c:Int)(ha:R64 a)(hb:R64 b)(hc:R64 c):CG0 142 [i64 a,i64 b,i64 c] []
  (.tup [i64 (y8 (zM (a*b) c)),pr (c≠0/\ -9223372036854775808<=zM (a*b) c/\zM (a*b) c<=9223372036854775807)]) []:=by
 refine zc Tryz.func142 ?_;refine⟨λh=>?_,λh=>?_⟩
 ·refine zI (zj ?_) (zd λh'=>h'.1 h);subst h;simp[zM,y8]
 have l1:=qT ha;have l2:=qT hb;have l3:=qT hc;have l4:=kO a b;unfold js at l1 l2 l3 l4;refine zb.t (jT a ha)<|zb.t (jT b hb)<|zb.t (zcC (ofZ a) (ofZ b) (by rw[jX];omega) (by rw[jX];omega)) ?_;rw[zW,zW];refine zb.t (jT c hc)<|zb.t (zph (ofZ (a*b)) (ofZ c) (by rw[jX];omega) (by rw[jX];omega) (by rw[zW];exact h)) ?_;rw[zW,zW]
 have l5:(zm (zM (a*b) c).natAbs).length<=6:=by
  refine jS (KX (m:=2*(a*b).natAbs+c.natAbs) ?_ ?_)
  ·rw[zdD];exact KV _ _
  ·have p1:=zf8 (z:=a*b) (k:=4) (by unfold js;omega);have e4:4294967296 ^ 4=340282366920938463463374607431768211456:=dC;have e6:4294967296 ^ 6=6277101735386680763835789423207666416102355444464034512896:=dC;rw[e4]at p1;rw[e6];omega
 refine zb.t (zjM (ofZ (zM (a*b) c)) (by rw[jX];omega)) ?_;rw[zW];exact zI .refl (zF ⟨λg=>⟨h,g⟩,λg=>g.2⟩)
theorem uf(a b:Int)(ha:R64 a)(hb:R64 b):CG0 78 [i64 a,i64 b] [] (i64 (y8 (zM a b))) []:=by
 refine zc Tryz.func78 ?_;refine zb.t (zhe a 1 b ha dC hb) ?_;rw[Int.mul_one];exact .refl
theorem zjN(n:Int)(hn:R64 n):CG0 202 [i64 n] [] (u64 (n.natAbs:Nat)) []:=by
 refine zc Tryz.func202 ?_;refine⟨λh=>?_,λh=>?_⟩
 ·exact Ar.wrap<|Ar.wrap<|zj (by rw[yx,yx];omega)
 ·exact Ar.o<|zj oM
theorem zsU(x:Nat):zaA .and .u64 x 4294967295=((x % 4294967296:Nat):Int):=by
 have e:(BitVec.ofInt 64 x&&&BitVec.ofInt 64 4294967295).toNat=x % 4294967296:=by
  rw[BitVec.toNat_and];have h1:(BitVec.ofInt 64 4294967295).toNat=2 ^ 32 - 1:=dC;rw[h1,Nat.and_two_pow_sub_one_eq_mod,QB];rw[show(2:Nat) ^ 32=4294967296 by decide];omega
 show IntKind.u64.wrap ((BitVec.ofInt 64 x&&&BitVec.ofInt 64 4294967295).toNat:Nat)=_;rw[e,yx];omega
theorem zsV(x y:Nat)(hx:x < 18446744073709551616)(hy:y < 18446744073709551616):
  CG0 201 [u64 x,u64 y] [] (.tup [u64 (x*y / 18446744073709551616:Nat),u64 (x*y % 18446744073709551616:Nat)]) []:=by
 refine zc Tryz.func201 ?_;obtain⟨k1,k2,k3,k4⟩:=Go.Lib.mul64_hi x y hx hy;have k0:(x / 4294967296)*(y % 4294967296)<=(x / 4294967296)*(y % 4294967296)+(x % 4294967296)*(y % 4294967296) / 4294967296:=Jp _ _
 have k5:x*y / 18446744073709551616 < 18446744073709551616:=by
  rw[XR dC];exact K4 hx hy
 refine⟨_,(zsU x).symm,?_⟩;refine Ob.o1<|⟨_,(zsU y).symm,?_⟩;refine Ob.o1 ?_;have ex:(x:Int) / 2 ^ 32=((x / 4294967296:Nat):Int):=by simp
 have ey:(y:Int) / 2 ^ 32=((y / 4294967296:Nat):Int):=by simp
 have hc:=Go.Lib.half_mul_le (a:=x % 4294967296) (b:=y / 4294967296) oM oM;have ha:=Go.Lib.half_mul_le (a:=x / 4294967296) (b:=y / 4294967296) oM oM;rw[ex,ey];generalize hx1:x / 4294967296=x1 at*;generalize hx0:x % 4294967296=x0 at*;generalize hy1:y / 4294967296=y1 at*;generalize hy0:y % 4294967296=y0 at*;(iterate 2 refine Ar.o ?_);refine Ob.o1 ?_;have e1:((x0:Int)*(y0:Int)) / 2 ^ 32=((x0*y0 / 4294967296:Nat):Int):=by simp
 rw[e1];generalize x0*y0 / 4294967296=w0 at*;refine Ar.o ?_;have e2:(x1:Int)*(y0:Int)+(w0:Int)=((x1*y0+w0:Nat):Int):=by simp
 rw[e2];generalize x1*y0+w0=t at*;refine⟨_,(zsU t).symm,?_⟩;refine Ob.o1 ?_;have e3:(t:Int) / 2 ^ 32=((t / 4294967296:Nat):Int):=by simp
 rw[e3];(iterate 4 refine Ar.o ?_);refine Ob.o1 ?_;have e4:(((t % 4294967296:Nat):Int)+(x0:Int)*(y1:Int)) / 2 ^ 32=(((t % 4294967296+x0*y1) / 4294967296:Nat):Int):=by simp
 rw[e4];refine Ar.o<|Ar.wrap<|zI (zj ?_) (zj ?_)
 ·rw[← k4];simp
 ·rw[yx];simp
theorem zzA(lo y:Nat)(hlo:lo < 18446744073709551616)(hy:y < 18446744073709551616)(h0:y≠0):
  CG0 258 [u64 (0:Nat),u64 lo,u64 y] [] (.tup [u64 (lo / y:Nat),u64 (lo % y:Nat)]) []:=by
 refine zc Tryz.func258 ?_;refine⟨λh=>absurd h oM,λ_=>?_⟩;refine⟨λh=>absurd h oM,λ_=>?_⟩;refine⟨λ_=>?_,λh=>absurd rfl h⟩;exact Dr.k<|Dv.pos ⟨oM,oM,by show _<=(18446744073709551615:Int);omega⟩<|Dv.pos ⟨oM,oM⟩<|zI (zj (by simp)) (zj (by simp))
def rup(lo by_:Nat):Nat:=(2*lo+by_) / (2*by_)
theorem zwN{lo y:Nat}(h0:y≠0):rup lo y=if y<=2*(lo % y) then lo / y+1 else lo / y:=by
 unfold rup;have e:=X3 lo y;have hl:=Kn lo (X5 h0);generalize lo / y=q at*;generalize lo % y=r at*;subst e;have p:2*(y*q+r)+y=2*y*q+(2*r+y):=by rw[KF,KD];omega
 rw[p,Qk oM]
 split
 ·have:(2*r+y) / (2*y)=1:=by
   rw[Nat.div_eq_iff oM];omega
  omega
 ·have:(2*r+y) / (2*y)=0:=Kg oM;omega
theorem zBT(lo y:Nat)(hlo:lo<=9223372036854775808)(hy:y < 18446744073709551616)(h0:y≠0):
  CG0 204 [.agg [u64 (0:Nat),u64 lo,u64 y]] [] (.tup [u64 (rup lo y:Nat),bl true]) []:=by
 refine zc Tryz.func204 ?_;refine⟨λh=>absurd h oM,λ_=>?_⟩;refine zb.t (zzA lo y oM hy h0) ?_;have hq:=KV lo y;have hr:=Kn lo (X5 h0);have he:=zwN (lo:=lo) h0;generalize rup lo y=u at*;generalize lo / y=q at*;generalize lo % y=r at*;refine Ar.o<|Br.mk (λh=>?_) (λh=>?_)
 ·rw[if_pos oM]at he;exact Ar.o<|zI (zj oM) (zBJ oM)
 ·rw[if_neg oM]at he;exact zI (zj oM) .refl
theorem zwO(p:Prop)[i:Decidable p](lo y:Nat)(hlo:lo<=9223372036854775808)(hy:y < 18446744073709551616)(h0:y≠0):
  CG0 203 [.pr p i,.val (.func (.func 204) #[.agg #[.int .u64 (0:Nat),.int .u64 (lo:Nat),.int .u64 (y:Nat)]] #[])] []
   (.tup [i64 (y8 (if p then -(rup lo y:Int) else rup lo y)),pr (-9223372036854775808<=(if p then -(rup lo y:Int) else rup lo y)/\(if p then -(rup lo y:Int) else rup lo y)<=9223372036854775807)]) []:=by
 refine zc Tryz.func203 ?_;refine zb.t (zBT lo y hlo hy h0) ?_
 have hu:rup lo y < 18446744073709551616:=by
  rw[zwN h0];have:=KV lo y
  split <;> omega
 generalize rup lo y=u at*
 have bad:∀z:Int,¬(-9223372036854775808<=z/\z<=9223372036854775807)->LE (.tup [i64 0,bl false]) (.tup [i64 (y8 z),pr (-9223372036854775808<=z/\z<=9223372036854775807)]):=λz h=>
  zI (zj (by rw[y8,if_neg h])) (zd h)
 have good:∀n z:Int,n=z-> -9223372036854775808<=z/\z<=9223372036854775807->LE (.tup [i64 n,bl true]) (.tup [i64 (y8 z),pr (-9223372036854775808<=z/\z<=9223372036854775807)]):=λn z hn h=>
  zI (zj (by rw[y8,if_pos h,hn])) (zR h)
 refine⟨λh=>bad _ (by split <;> omega),λh=>?_⟩
 have tail:(u:Int)<=9223372036854775808->((u:Int)=9223372036854775808->p)->IntKind.i64.wrap (IntKind.u64.wrap (-(u:Int)))= -(u:Int)/\(¬p->(u:Int)<=9223372036854775807):=λg1 g2=>by
  refine⟨?_,λhp=>?_⟩
  ·rw[yx];simp only[IntKind.wrap,IntKind.bits,IntKind.signed];simp;omega
  ·by_cases e:(u:Int)=9223372036854775808
   ·exact absurd (g2 e) hp
   ·omega
 refine⟨λh1=>?_,λh1=>?_⟩
 ·refine⟨λh2=>bad _ (by rw[if_neg h2];omega),λh2=>?_⟩;have hp:=Xa.1 h2;obtain⟨t1,t2⟩:=tail oM (λ_=>hp);refine⟨λ_=>?_,λh3=>absurd hp h3⟩;exact Ar.wrap<|Ar.wrap<|good _ _ (by rw[if_pos hp];exact t1) (by rw[if_pos hp];omega)
 ·obtain⟨t1,t2⟩:=tail oM (λh=>absurd h h1);refine⟨λh3=>?_,λh3=>?_⟩
  ·exact Ar.wrap<|Ar.wrap<|good _ _ (by rw[if_pos h3];exact t1) (by rw[if_pos h3];omega)
  ·have:=t2 h3;exact Ar.o<|good _ _ (by rw[if_neg h3]) (by rw[if_neg h3];omega)
theorem zwP(a c:Int):(if ¬(¬(a < 0↔(1:Int) < 0)↔c < 0) then -(rup a.natAbs c.natAbs:Int) else(rup a.natAbs c.natAbs:Int))=zM a c:=by
 unfold zM;show _=if a < 0↔c < 0 then((rup a.natAbs c.natAbs:Nat):Int) else -((rup a.natAbs c.natAbs:Nat):Int)
 generalize (rup a.natAbs c.natAbs:Int)=u
 by_cases h1:a < 0 <;> by_cases h2:c < 0 <;> simp[h1,h2]
theorem zuD(a c:Int)(ha:R64 a)(hc:R64 c):CG0 140 [i64 a,i64 1,i64 c] []
  (.tup [i64 (y8 (zM a c)),pr (c≠0/\ -9223372036854775808<=zM a c/\zM a c<=9223372036854775807)]) []:=by
 refine zc Tryz.func140 ?_;refine⟨λh=>?_,λh=>?_⟩
 ·refine zI (zj ?_) (zd λh'=>h'.1 h);subst h;simp[zM,y8]
 refine zb.t (zjN a ha)<|zb.t (zjN 1 dC)<|zb.t (zsV a.natAbs (1:Int).natAbs oM oM) ?_;rw[show(1:Int).natAbs=1 by rfl,Jb,Kg (show a.natAbs < 18446744073709551616 by omega),Xu (show a.natAbs < 18446744073709551616 by omega)];refine zb.t (zjN c hc)<|zb.t (zwO (¬(¬(a < 0↔(1:Int) < 0)↔c < 0)) a.natAbs c.natAbs oM oM oM) ?_;rw[zwP a c];exact zI .refl (zF ⟨λg=>⟨h,g⟩,λg=>g.2⟩)
theorem zN(a b:Int)(ha:R64 a)(hb:R64 b):CG0 73 [i64 a,i64 b] [] (i64 (y8 (zM a b))) []:=by
 refine zc Tryz.func73 ?_;exact zb.t (zuD a b ha hb)<|.refl
end Go.Gs
