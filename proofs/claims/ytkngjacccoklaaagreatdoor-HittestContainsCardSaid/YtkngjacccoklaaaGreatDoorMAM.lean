/- A function that is handed blocks, and leaves blocks, za many za it will. -/
import Derived.Test.YtkngjacccoklaaaGreatDoorMA
import Derived.Test.YtkngjacccoklaaaGreatDoorMAK
import Derived.RowKit3
import Derived.Below
import GoSem.Claim
import Derived.Test.YtkngjacccoklaaaGreatDoorMAL
set_option maxRecDepth 100000
set_option maxHeartbeats 8000000
set_option linter.all false
namespace Go.Gs
section
def endG(Γ:List (TypeId×TI))(rs:List ResultVar)(r:SV)(M':List (Nat×Mem))(e:Ex)(σ:St):Prop:=
 match e with
 |.exit _=>False
 |_=>∃σ',Sub σ σ'/\σ'.M=M'/\zbV σ' Γ rs λs=>LE s r
variable{P:Program}{Γ:List (TypeId×TI)}{f:FuncId}{fn:Func}{c:Code}{r:SV}
def yy(hT:TOK P Γ)(hm:P.follows .mixedOrders=true){args:List SV}{M M':List (Nat×Mem)}(hf:P.funcs[f]?=some fn)(hb:fn.body=some c)(hn:(fn.name== "runtime.NumGoroutine")=false) (hle:Nat.ble args.length fn.ntmps=true)
  (h:jH P Γ c ⟨jI 0 args,M,M.length,fn.ntmps,M.length⟩ (endG Γ fn.results.toList r M')):qx P f args M r M':=by
 refine zaS hT hm hf hb hn hle h (Q':=λe σ=>(∀id,e≠.exit id)/\σ.M=M'/\zbV σ Γ fn.results.toList λs=>LE s r) (λe σ hq=>?_) (λe σ hq he=>?_) (λid σ hq=>hq.1 id rfl)
 ·cases e with
  |exit id=>exact hq.elim
  |normal=>obtain⟨σ',h1,h2,h3⟩:=hq;exact⟨σ',h1,λ_=>by simp,h2,h3⟩
  |ret=>obtain⟨σ',h1,h2,h3⟩:=hq;exact⟨σ',h1,λ_=>by simp,h2,h3⟩
 obtain⟨_,hM,hq⟩:=hq;obtain⟨s,hle,h1⟩:=yj hT hq;refine⟨s,h1,λ{E ρ a w v} hr hW hρ0 hg=>⟨ρ,?_,?_,?_⟩⟩
 ·have hs:=hr.stp;rw[hM]at hs;exact⟨hs.os,hs.tape,hs.output,hs.size,λb hb hn=>hs.block b hb λh=>hn ((hW b).1 h),λb hb=>(hs.own b hb).imp (hW b).1 id,hs.rho⟩
 ·have:=hr.mem
  rwa [hM]at this
 rw[hM]at hg;exact hle _ _ _ _ _ hg
def zAr{q:Int}(k:Nat)(hk:k<=32):vk .and .i64 q (2^k-1)=q%2^k:=by
 have hp:(2:Int)^k<=2^32:=by
  have:=XH (show 0<2 by decide) hk
  exact_mod_cast this
 have hp0:(1:Int)<=2^k:=by
  have:=Nat.one_le_two_pow (n:=k)
  exact_mod_cast this
 have hpn:(2:Nat)^k<=2^32:=XH dC hk;have hpn0:=Nat.one_le_two_pow (n:=k);have hc:((2^k:Nat):Int)=(2:Int)^k:=by exact_mod_cast rfl
 have e:(BitVec.ofInt 64 q&&&BitVec.ofInt 64 (2^k-1)).toNat=(q%2^k).toNat:=by
  rw[BitVec.toNat_and]
  have h1:(BitVec.ofInt 64 ((2:Int)^k-1)).toNat=2^k-1:=by
   rw[K5];omega
  rw[h1,Ju,K5];have hd:((2:Int)^k) ∣ (2:Int)^64:=⟨2^(64-k),by rw[←Int.pow_add];congr 1;omega⟩;have h2:(q%(2:Int)^64)%2^k=q%2^k:=Int.emod_emod_of_dvd q hd;have h3:=Kb q (show(2:Int)^64≠0 by decide);have h4:=Kb q (show(2:Int)^k≠0 by omega)
  have h5:(((q%(2:Int)^64).toNat%2^k:Nat):Int)=q%2^k:=by
   rw[QU,hc,Qj h3,h2]
  show(q%((2^64:Nat):Int)).toNat%2^k=_;have h6:((2^64:Nat):Int)=(2:Int)^64:=dC;rw[h6];omega
 show IntKind.i64.wrap ((BitVec.ofInt 64 q&&&BitVec.ofInt 64 (2^k-1)).toNat:Nat)=_;rw[e];have h4:=Kb q (show(2:Int)^k≠0 by omega);have h5:=X3 q (show(0:Int)<2^k by omega);rw[Qj h4];generalize q%2^k=z at*;simp only[IntKind.wrap,IntKind.bits,IntKind.signed];simp;omega
variable{σ:St}
def zAs(k0:Nat){m m':Mem}(h0:zS σ.M k0=some m)(hm:∀(S Pm:Nat->Prop) (ρ:zi) (w:World),jG S Pm ρ w k0 m->jG S Pm ρ w k0 m'):
  Sub σ ⟨σ.L,qH σ.M k0 m',σ.nk,σ.nt,σ.n0⟩:=by
 intro E ρ a w hr;refine⟨ρ,?_⟩;have hkeys:(qH σ.M k0 m').map (·.1)=σ.M.map (·.1):=zaP;have hown:∀b,Own (qH σ.M k0 m') ρ b->Own σ.M ρ b:=λb hb=>zaa hkeys.symm hb
 have hown':∀b,Own σ.M ρ b->Own (qH σ.M k0 m') ρ b:=λb hb=>zaa hkeys hb
 have eo:Own (qH σ.M k0 m') ρ=Own σ.M ρ:=funext λb=>propext ⟨hown b,hown' b⟩
 refine⟨hr.size,hr.defers,λt s hl=>?_,⟨λk1 m1 h1=>?_,yL hkeys hr.mem.keys,λk1 m1 k2 m2 v1 v2 b h1 h2=>?_,λb hb=>hr.mem.old b (hown b hb),hr.mem.kp,hr.mem.glO hown⟩,
  hr.fresh,?_,hr.keep,hr.low⟩
 ·show t<σ.nt/\G (λb=>E.Keep b∨Own (qH σ.M k0 m') ρ b) (Own (qH σ.M k0 m') ρ) ρ w s (a.tmps.getD t undef);rw[eo];exact hr.regs t s hl
 ·show jG (λb=>E.Keep b∨Own (qH σ.M k0 m') ρ b) (Own (qH σ.M k0 m') ρ) ρ w k1 m1;rw[eo]
  obtain⟨_,h2⟩|h2:=jJ hr.mem.keys _ h1
  ·exact hr.mem.rel k1 m1 h2
  cases h2
  exact hm _ _ _ _ (hr.mem.rel k0 m (zw h0))
 ·have back:∀k1 m1,(k1,m1)∈qH σ.M k0 m'->∃m',(k1,m')∈σ.M:=λk1 m1 h=>by
   obtain⟨_,h2⟩|h2:=jJ hr.mem.keys _ h
   ·exact⟨m1,h2⟩
   cases h2;exact⟨_,zw h0⟩
  obtain⟨m1',h1'⟩:=back _ _ h1;obtain⟨m2',h2'⟩:=back _ _ h2;exact hr.mem.apart k1 m1' k2 m2' v1 v2 b h1' h2'
 show Stp E.W0 (Own (qH σ.M k0 m') ρ) E.ρ0 ρ E.w0 w;rw[eo];exact hr.stp
def LEs.ixs{za bs:List SV}(h:LEs za bs):za.length=bs.length/\∀(j:Nat) (r:SV),bs[j]?=some r->∃s,za[j]?=some s/\LE s r:=by
 induction h with
 |nil=>exact⟨rfl,λj r h=>by simp at h⟩
 |cons h t ih=>
  refine⟨by simp[ih.1],λj r hr=>?_⟩
  cases j with
  |zero=>simp at hr;subst hr;exact⟨_,rfl,h⟩
  |succ j=>simpa using ih.2 j r (by simpa using hr)
inductive Rows:List (List SV)->List (List SV)->Prop
 |nil:Rows [] []
 |cons {x y:List SV} {xs ys:List (List SV)} (h:LEs x y) (t:Rows xs ys):Rows (x::xs) (y::ys)
def Rows.refl:∀{xs:List (List SV)},Rows xs xs
 |[]=>.nil
 |_::_=>.cons .refl .refl
variable{us:List (List SV)}
def Rows.C{a:(List SV)}{bs:List (List SV)}(t:Rows us bs):Rows (a::us) (a::bs):=.cons .refl t
variable{ys:List (List SV)}
def Rows.app{xs vs:List (List SV)}(h:Rows xs ys)(k:Rows us vs):Rows (xs++us) (ys++vs):=by
 induction h with
 |nil=>exact k
 |cons h t ih=>exact .cons h ih
def Rows.ix{xs:List (List SV)}(h:Rows xs ys):xs.length=ys.length/\∀(i:Nat) y,ys[i]?=some y->∃x,xs[i]?=some x/\LEs x y:=by
 induction h with
 |nil=>exact⟨rfl,λi y h=>by simp at h⟩
 |cons h t ih=>
  refine⟨by simp[ih.1],λi y hy=>?_⟩
  cases i with
  |zero=>simp at hy;subst hy;exact⟨_,rfl,h⟩
  |succ i=>simpa using ih.2 i y (by simpa using hy)
def zen(k0:Nat){T:TypeId}{sz:Nat}{xs:List (List SV)}(h0:zS σ.M k0=some (.garr T sz xs))(h:Rows xs ys):Sub σ ⟨σ.L,qH σ.M k0 (.garr T sz ys),σ.nk,σ.nt,σ.n0⟩:=by
 refine zAs k0 h0 λS Pm ρ w ⟨v,cells,g1,g2,g3,g4,g5,g6⟩=>⟨v,cells,g1,by rw[←h.ix.1];exact g2,by rw[←h.ix.1];exact g3,g4,λy hy=>?_,λi j y s hy hs=>?_⟩
 ·obtain⟨i,hi⟩:=Ym.1 hy;obtain⟨x,hx,hle⟩:=h.ix.2 i y hi;rw[←hle.ixs.1];exact g5 x (Xf hx)
 obtain⟨x,hx,hle⟩:=h.ix.2 i y hy;obtain⟨s',hs',hl⟩:=hle.ixs.2 j s hs;obtain⟨u,hu,hg⟩:=g6 i j x s' hx hs';exact⟨u,hu,hl _ _ _ _ _ hg⟩
def law_walk'{args:List SV}{vs:List Value}{w:World}(h:qx P f args [] (bl true) [])(hg:∀S Pm:Nat->Prop,(∀b,¬S b)->(∀b,¬Pm b)->Gs S Pm (λ_=>none) w args vs)(hgl:∀g v,GL g v->w.cell? ⟨g,0,none⟩=some v:=by intro _ _ h;cases h):
  Calls P f vs.toArray w λe w'=>e=.returned (.bool true)/\RowKit.Grown w w'/\RowKit.Below w.heap.size w w':=by
 refine(h.2 (λ_=>False) (λ_=>none) w vs (λ_ h=>h.elim) (qr (λ_ h=>h.elim) hgl) (λ_ _=>rfl) (hg _ _ (λb hb=>hb.elim id zP) (λb=>zP))).mono ?_
 rintro e w' ⟨v,ρ',rfl,hs,_,hv⟩
 refine⟨by rw[hv.val_inv],⟨⟨hs.os,hs.output.1,λi hi=>?_⟩,hs.output.2,hs.size⟩,⟨hs.os,hs.tape,hs.output.1,hs.size,λi hi=>hs.block i hi zP⟩⟩;rw[hs.block i hi zP]
 cases w.heap[i]? with
 |none=>rfl
 |some o=>cases o <;> simp
def r64{n:Int}(h:(Lit.int .i64 n).wf=true):R64 n:=by
 simp only[Lit.wf,XA,decide_eq_true_eq]at h;exact h
def zw7(P:Program)(Γ:List (TypeId×TI)):Nat->Code->(St->Prop)->St->(Ex->St->Prop)->Prop
 |0,_,J,σ,_=>J σ
 |n+1,.seq x y,J,σ,Q=>jH P Γ x σ λe σ=>(match e with
  |.normal=>zw7 P Γ n y J σ Q
  |.exit id=>Q (.exit id) σ
  |.ret=>Q .ret σ)
 |_+1,_,_,_,_=>False
def zw8:Nat->Code->Code
 |0,c=>c
 |n+1,.seq _ y=>zw8 n y
 |_+1,c=>c
def zdb(P:Program)(c:Code)(σ:St)(Q:Ex->St->Prop):Prop:=∀(E:Env) (ρ:zi) (a:Act) (w:World),Rel E σ ρ a w->c.wp P (uU E Q) a w
variable{Q:Ex->St->Prop}
def zdb.vc(hT:TOK P Γ)(hm:P.follows .mixedOrders=true)(h:jH P Γ c σ Q):zdb P c σ Q:=
 λ_ _ _ _ hr=>qa hT hm c hr h
def zmd{P:Program}{Γ:List (TypeId×TI)}(hT:TOK P Γ)(hm:P.follows .mixedOrders=true){J:St->Prop}{Q:Ex->St->Prop}:∀(n:Nat) (c:Code) {σ:St},
  zw7 P Γ n c J σ Q->(∀σ,J σ->zdb P (zw8 n c) σ Q)->zdb P c σ Q
 |0,_,_,h,hJ=>hJ _ h
 |n+1,.seq x y,σ,h,hJ=>λE ρ a w hr=>by
  refine wp_seq (Code.wp_mono (λe a' w' hq=>?_) (qa hT hm x hr h))
  cases e with
  |normal=>obtain⟨σ',ρ',h',hr'⟩:=hq;exact zmd hT hm n y h' hJ E ρ' a' w' hr'
  |exit id=>exact hq
  |ret=>exact hq
  |_=>exact hq.elim
 |_+1,.skip,_,h,_=>h.elim
 |_+1,.region ..,_,h,_=>h.elim
 |_+1,.cond ..,_,h,_=>h.elim
 |_+1,.block ..,_,h,_=>h.elim
 |_+1,.loop ..,_,h,_=>h.elim
 |_+1,.rangeFunc ..,_,h,_=>h.elim
 |_+1,.exit ..,_,h,_=>h.elim
 |_+1,.scope ..,_,h,_=>h.elim
 |_+1,.label ..,_,h,_=>h.elim
 |_+1,.goto ..,_,h,_=>h.elim
 |_+1,.ret,_,h,_=>h.elim
 |_+1,.refuse ..,_,h,_=>h.elim
def zdb.cut(hT:TOK P Γ)(hm:P.follows .mixedOrders=true)(n:Nat){ι:Type}(S:ι->St)(I:ι->Prop)(h:zw7 P Γ n c (λσ=>∃i,I i/\Sub σ (S i)) σ Q)(h2:∀i,I i->zdb P (zw8 n c) (S i) Q):zdb P c σ Q:=
 zmd hT hm n c h λ_ ⟨i,hi,hs⟩ E ρ a w hr=>by
  obtain⟨ρ',hr'⟩:=hs E ρ a w hr;exact h2 i hi E ρ' a w hr'
def zcF(hT:TOK P Γ){args:List SV}(hf:P.funcs[f]?=some fn)(hb:fn.body=some c)(hn:(fn.name== "runtime.NumGoroutine")=false) (hle:Nat.ble args.length fn.ntmps=true)
  (h:zdb P c ⟨jI 0 args,[],0,fn.ntmps,0⟩ (endV Γ fn.results.toList r)):qx P f args [] r []:=by
 refine⟨⟨fn,hf,hn,by rw[hb];rfl⟩,λKeep ρ w vs _ hmem hρ hg=>calls_of_wp hf hb ?_⟩;have hrel:=vL (nt:=fn.ntmps) hmem hρ hg (Xz hle);refine Code.wp_mono (λe a' w' hq=>?_) (h _ _ _ _ hrel)
 have fin:∀σ ρ1,zbV σ Γ fn.results.toList (λs=>LE (zlU (zS σ.M) s) r)->Rel ⟨w,ρ,Keep,Own [] ρ,[]⟩ σ ρ1 a' w'->a'.defers=[]/\∃v,(results fn a'.tmps).run P w'=.ok v w'/\∃v' ρ',Ending.returned v=.returned v'/\Stp (Own [] ρ) (Own [] ρ') ρ ρ' w w'/\
   zK Keep [] ρ' w'/\G (λb=>Keep b∨Own [] ρ' b) (Own [] ρ') ρ' w' r v':=by
  intro σ ρ1 hq hr;obtain⟨s,hle,h1⟩:=yj hT hq;obtain⟨v,g1,hg⟩:=h1 hr;have hs:=hr.stp;refine⟨hr.defers,v,g1,v,ρ1,rfl,⟨hs.os,hs.tape,hs.output,hs.size,hs.block,λb hb=>absurd hb zP,hs.rho⟩,qr hr.mem.kp λ_ _ h=>hr.mem.glc h,?_⟩;exact hle _ _ _ _ _ (znO (λk m h=>zw h) hr.mem (λb hb=>.inl (hb.resolve_right zP)) hg (λb hb hk=>(hr.mem.old b hb).2 (hk.resolve_right zP)) (λ_=>zP))
 cases e with
 |normal=>obtain⟨σ,ρ1,hq,hr⟩:=hq;exact fin σ ρ1 hq hr
 |ret=>obtain⟨σ,ρ1,hq,hr⟩:=hq;exact fin σ ρ1 hq hr
 |exit id=>obtain⟨σ,ρ1,hq,hr⟩:=hq;exact hq.elim
 |_=>exact hq.elim
abbrev Dig:=Fin 4294967296
def val:List Dig->Nat
 |[]=>0
 |d::r=>d.val+4294967296*val r
def zm(n:Nat):List Dig:=
 if h:n=0 then[] else⟨n%4294967296,Kk _ dC⟩::zm (n/4294967296)
termination_by n
decreasing_by exact Yc (X9 h) dC
def dig(xs:List Dig)(i:Nat):Nat:=match xs[i]? with
 |some d=>d.val
 |none=>0
def zdz(i:Nat):0<4294967296^i:=KX dC
def yR(xs:List Dig)(i:Nat):dig xs i<4294967296:=by
 unfold dig;split
 ·exact Fin.isLt _
 decide
variable{xs:List Dig}{i:Nat}
def zU{d:Dig}(h:xs[i]?=some d):dig xs i=d.val:=by simp[dig,h]
def zaL(h:xs.length<=i):dig xs i=0:=by simp[dig,h]
def ze3(d:Dig)(r:List Dig):dig (d::r) 0=d.val:=rfl
def vZ(d:Dig)(r:List Dig)(i:Nat):dig (d::r) (i+1)=dig r i:=by simp[dig]
def zxb(xs:List Dig)(k i:Nat):dig (xs.take k) i=if i<k then dig xs i else 0:=by
 by_cases h:i<k <;> simp[dig,XI,h]
def jQ(xs:List Dig)(i j:Nat)(d:Dig):dig (xs.set i d) j=if i=j/\i<xs.length then d.val else dig xs j:=by
 simp only[dig,Kz]
 by_cases h:i=j
 ·subst h
  by_cases h2:i<xs.length
  ·simp[h2]
  simp[h2];
 simp[h]
def zr4(xs ys:List Dig)(i:Nat):dig (xs++ys) i=if i<xs.length then dig xs i else dig ys (i-xs.length):=by
 by_cases h:i<xs.length <;> simp[dig,KP,h]
def yN(n i:Nat):dig (List.replicate n (0:Dig)) i=0:=by
 simp only[dig,List.getElem?_replicate];by_cases h:i<n <;> simp[h]
def znU:val []=0:=rfl
def vn(d:Dig)(r:List Dig):val (d::r)=d.val+4294967296*val r:=rfl
def vM:∀xs ys:List Dig,val (xs++ys)=val xs+4294967296^xs.length*val ys
 |[],ys=>by simp[val]
 |x::xs,ys=>by
  simp only[Js,val,vM xs ys,Xn,XU]
  grind
def q9:∀xs:List Dig,val xs<4294967296^xs.length
 |[]=>by simp[val]
 |x::xs=>by
  have h:=q9 xs;have:=x.isLt;simp only[val,Xn,XU];omega
def kT(xs:List Dig)(i:Nat):val xs=val (xs.take i)+4294967296^i*val (xs.drop i):=by
 by_cases h:i<=xs.length
 ·have:=vM (xs.take i) (xs.drop i);rw[Kj,Xo,K4 h]at this;exact this
 rw[Xi oM,Ky oM];simp[val]
def qR(xs:List Dig)(i:Nat):val (xs.take i)<4294967296^i:=by
 have h:=q9 (xs.take i);have:(xs.take i).length<=i:=by simp;omega
 exact Xw h (XH dC this)
def zG(xs:List Dig)(i:Nat):val (xs.drop i)=dig xs i+4294967296*val (xs.drop (i+1)):=by
 by_cases h:i<xs.length
 ·rw[KT h,vn,zU (Xb h)]
 rw[Ky oM,Ky oM,zaL oM];rfl
def zQ(xs:List Dig)(i:Nat):val (xs.take (i+1))=val (xs.take i)+4294967296^i*dig xs i:=by
 have h1:=kT xs i;have h2:=kT xs (i+1);have h3:=zG xs i;rw[XU]at h2;rw[h3]at h1;generalize 4294967296^i=q at*;generalize val (xs.take (i+1))=a at*;generalize val (xs.take i)=b at*;generalize val (xs.drop (i+1))=c at*;have:q*(dig xs i+4294967296*c)=q*dig xs i+q*4294967296*c:=by rw[KF,KC]
 omega
def kU(h:xs.length<=i):val (xs.take i)=val xs:=by rw[Xi h]
def zlH(xs:List Dig):val (xs.take 0)=0:=rfl
def z8(h:xs.length<=i):val (xs.drop i)=0:=by rw[Ky h];rfl
def v6:∀(xs:List Dig) (i:Nat) (d:Dig),i<xs.length->val (xs.set i d)+4294967296^i*dig xs i=val xs+4294967296^i*d.val
 |[],i,d,h=>by simp at h
 |x::xs,0,d,_=>by simp only[List.set_cons_zero,val,ze3];omega
 |x::xs,i+1,d,h=>by
  have ih:=v6 xs i d (by simpa using h);simp only[JN,val,vZ,XU]
  grind
def vo(xs:List Dig)(d:Dig):val (xs++[d])=val xs+4294967296^xs.length*d.val:=by
 rw[vM];simp[val]
def zaT(n:Nat):val (List.replicate n (0:Dig))=0:=by
 induction n with
 |zero=>rfl
 |succ n ih=>rw[List.replicate_succ,vn,ih];rfl
def jZ:zm 0=[]:=by unfold zm;rfl
def zgh{n:Nat}(h:n≠0):zm n=⟨n%4294967296,Kk _ dC⟩::zm (n/4294967296):=by
 rw[zm];simp[h]
def zo(n:Nat):val (zm n)=n:=by
 induction n using Nat.strongRecOn with
 |_ n ih=>
  by_cases h:n=0
  ·subst h;rw[jZ];rfl
  rw[zgh h,vn,ih _ (Yc (X9 h) dC)];show n%4294967296+_=n;omega
def zpI(xs:List Dig):Prop:=xs=[]∨dig xs (xs.length-1)≠0
def ze4:∀{xs:List Dig},zpI xs->xs≠[]->val xs≠0
 |[],_,h=>absurd rfl h
 |[x],h,_=>by
  rcases h with h|h
  ·cases h
  have:dig [x] ([x].length-1)=x.val:=rfl;simp only[val];omega
 |x::y::r,h,_=>by
  have h':zpI (y::r):=by
   rcases h with h|h
   ·cases h
   right
   simp only[Xn,Qr]at h ⊢;rw[vZ]at h;exact h
  have:=ze4 h' (by simp);rw[vn];omega
def zpJ:∀{xs:List Dig},zpI xs->zm (val xs)=xs
 |[],_=>jZ
 |x::r,h=>by
  have hp:=ze4 h (by simp)
  have h':zpI r:=by
   rcases h with h|h
   ·cases h
   cases r with
   |nil=>exact .inl rfl
   |cons y r=>
    right
    simp only[Xn,Qr]at h ⊢;rw[vZ]at h;exact h
  have hx:=x.isLt;rw[zgh hp];have e1:val (x::r)%4294967296=x.val:=by rw[vn];omega
  have e2:val (x::r)/4294967296=val r:=by rw[vn];omega
  rw[e2,zpJ h'];congr 1;exact Fin.ext e1
def vN(n:Nat):zpI (zm n):=by
 induction n using Nat.strongRecOn with
 |_ n ih=>
  by_cases h:n=0
  ·subst h;rw[jZ];exact .inl rfl
  have ih:=ih _ (Yc (X9 h) (show 1<4294967296 by decide))
  right
  rw[zgh h]
  rcases ih with ih|ih
  ·have e:=zo (n/4294967296);rw[ih]at e ⊢;simp only[val]at e;show n%4294967296≠0;omega
  by_cases he:zm (n/4294967296)=[]
  ·rw[he]at ih;exact absurd (by rfl) ih
  obtain⟨y,r,he⟩:=List.exists_cons_of_ne_nil he;rw[he]at ih ⊢;simp only[Xn,Qr]at ih ⊢;rw[vZ];exact ih
def zjY{n:Nat}(h:n=0∨dig xs (n-1)≠0)(hn:n<=xs.length)(hz:∀i,n<=i->dig xs i=0):xs.take n=zm (val xs):=by
 have e:val xs=val (xs.take n):=by
  rw[kT xs n]
  have:val (xs.drop n)=0:=by
   have key:∀k,val (xs.drop (n+k))=0∨k<=xs.length:=λk=>by
    by_cases hk:k<=xs.length
    ·exact .inr hk
    exact .inl (z8 oM)
   have down:∀j,val (xs.drop (n+(xs.length-j)))=0:=by
    intro j
    induction j with
    |zero=>exact z8 oM
    |succ j ih=>
     by_cases hj:j<xs.length
     ·rw[zG,hz _ oM,show n+(xs.length-(j+1))+1=n+(xs.length-j) by omega,ih]
     rw[show n+(xs.length-(j+1))=n+(xs.length-j) by omega];exact ih
   have:=down xs.length
   simpa using this
  rw[this];simp
 rw[e,zpJ]
 by_cases hn0:n=0
 ·subst hn0;exact .inl rfl
 right
 rw[Xo,K4 hn,zxb,Xe oM];exact h.resolve_left hn0
def jL{n k:Nat}(h:n<4294967296^k):(zm n).length<=k:=by
 induction k generalizing n with
 |zero=>
   have:n=0:=by simpa using h
   subst this;rw[jZ];simp
 |succ k ih=>
  by_cases h0:n=0
  ·subst h0;rw[jZ];simp
  rw[zgh h0,Xn]
  have:n/4294967296<4294967296^k:=by
   rw[XS dC];rwa [XU]at h
  have:=ih this;omega
def zcG{n k:Nat}(h:(zm n).length<=k):n<4294967296^k:=by
 have:=q9 (zm n);rw[zo]at this;exact Xw this (XH dC h)
def zJ(xs:List Dig):(zm (val xs)).length<=xs.length:=jL (q9 xs)
def yF{n:Nat}:zm n=[]↔n=0:=by
 constructor
 ·intro h;have:=zo n;rw[h]at this;exact this.symm
 rintro rfl;exact jZ
def jy{n:Nat}:0<(zm n).length↔n≠0:=by
 rw[JF,Ne,yF]
def znV{n:Nat}(h:n≠0):4294967296^((zm n).length-1)<=n:=by
 rcases Qe n (4294967296^((zm n).length-1)) with h1|h1
 ·have:=jL h1;have:=jy.2 h;omega
 exact h1
def qm{m n:Nat}(h:m<=n):(zm m).length<=(zm n).length:=jL (K6 h (zcG (Xk _)))
def zdA{xs ys:List Dig}{k:Nat}(h:∀i,k<=i->dig xs i=dig ys i):val (xs.drop k)=val (ys.drop k):=by
 have down:∀j,∀k',k<=k'->max xs.length ys.length<=k'+j->val (xs.drop k')=val (ys.drop k'):=by
  intro j
  induction j with
  |zero=>intro k' _ hk;rw[z8 oM,z8 oM]
  |succ j ih=>
   intro k' hk hj;rw[zG,zG ys,h k' hk,ih (k'+1) oM oM]
 exact down (max xs.length ys.length) k (Xk _) oM
def zme{ys:List Dig}(h:∀i,dig xs i=dig ys i):val xs=val ys:=by
 have:=zdA (k:=0) (xs:=xs) (ys:=ys) (λi _=>h i)
 simpa using this
def zAt(xs:List Dig)(i:Nat):dig xs i=val xs/4294967296^i%4294967296:=by
 have h1:=kT xs i;have h2:=qR xs i;have h3:=zG xs i;have h4:=yR xs i
 have e:val xs/4294967296^i=val (xs.drop i):=by
  rw[h1,J7,Qz (zdz i),Kh h2,XQ]
 rw[e,h3];omega
def zjZ(xs:List Dig)(i:Nat):val (xs.drop i)=val xs/4294967296^i:=by
 have h1:=kT xs i;have h2:=qR xs i;rw[h1,J7,Qz (zdz i),Kh h2,XQ]
def zpK(xs:List Dig)(i:Nat):val (xs.take i)=val xs%4294967296^i:=by
 have h1:=kT xs i;have h2:=qR xs i;rw[h1,JR,Xy h2]
def dof(n:Nat):Dig:=⟨n%4294967296,Kk _ dC⟩
def ky(n:Nat):(dof n).val=n%4294967296:=rfl
def kA(n:Nat):Nat:=if n=0 then 0 else n.log2+1
def zdB(n:Nat):n<2^kA n:=by
 unfold kA;split
 ·subst_vars;decide
 exact Nat.lt_log2_self
def zb0{n:Nat}(h:n≠0):2^(kA n-1)<=n:=by
 unfold kA;rw[Xc h];exact Nat.log2_self_le h
def zgi{n k:Nat}(h1:n<2^k)(h2:n≠0)(h3:2^(k-1)<=n):kA n=k:=by
 have a:=zdB n;have b:=zb0 h2;have c:2^(kA n-1)<2^k:=K6 b h1;have d:2^(k-1)<2^kA n:=K6 h3 a;have c:=(QE (by decide:1<2)).1 c;have d:=(QE (by decide:1<2)).1 d;have:0<kA n:=by unfold kA;rw[Xc h2];omega
 have:k≠0:=by rintro rfl;simp at h1;exact h2 h1
 omega
def zr5:kA 0=0:=rfl
def zb1{n:Nat}:0<kA n↔n≠0:=by
 unfold kA;split <;> omega
def zbd(k:Nat):4294967296^k=2^(32*k):=by rw[show 4294967296=2^32 by decide,←Nat.pow_mul]
def zu1{n:Nat}(h:2<=n):n.log2=(n/2).log2+1:=by rw[Nat.log2_def,Xe h]
def zr6{n:Nat}(h:n≠0):kA n=kA (n/2)+1:=by
 unfold kA;rw[Xc h]
 by_cases h1:n/2=0
 ·rw[Xe h1];have:n=1:=oM;subst this;rfl
 rw[Xc h1,zu1 oM]
def zb2(hn:dig xs (xs.length-1)≠0):kA (val xs)=32*(xs.length-1)+kA (dig xs (xs.length-1)):=by
 have hl:0<xs.length:=by
  rcases Ks xs.length with h|h
  ·rw[XM.1 h]at hn;exact absurd rfl hn
  exact h
 have e1:=kT xs (xs.length-1);have e2:=qR xs (xs.length-1);have e3:=zG xs (xs.length-1);rw[show xs.length-1+1=xs.length by omega,z8 (Xk _),Ko,XQ]at e3;rw[e3]at e1;generalize dig xs (xs.length-1)=t at*;have p1:=zdB t;have p2:=zb0 hn;rw[zbd]at e1 e2;have p0:0<2^(32*(xs.length-1)):=KX dC;have np:0<kA t:=zb1.2 hn;refine zgi ?_ ?_ ?_
 ·rw[Ke];have:2^(32*(xs.length-1))*(t+1)<=2^(32*(xs.length-1))*2^kA t:=Kf _ p1;rw[KF,Je]at this;omega
 ·have:2^(32*(xs.length-1))*1<=2^(32*(xs.length-1))*t:=Kf _ oM;omega
 rw[show 32*(xs.length-1)+kA t-1=32*(xs.length-1)+(kA t-1) by omega,Ke];have:2^(32*(xs.length-1))*2^(kA t-1)<=2^(32*(xs.length-1))*t:=Kf _ p2;omega
def zdC{xs:List Dig}{N:Nat}(h:∀j,j<xs.length->dig xs j=N/4294967296^j%4294967296):val xs=N%4294967296^xs.length:=by
 have key:∀i,i<=xs.length->val (xs.take i)=N%4294967296^i:=by
  intro i
  induction i with
  |zero=>intro _;rw[Jn,Nat.mod_one];rfl
  |succ i ih=>
   intro hi;rw[zQ,ih oM,h i oM,XU,Nat.mod_mul]
 have:=key xs.length (Xk _)
 rwa [X5]at this
def ztp(xs:List Dig)(w s j:Nat)(hs:s<32):val xs/2^(32*w+s)/4294967296^j%4294967296=(dig xs (w+j+1)*4294967296+dig xs (w+j))/2^s%4294967296:=by
 have e:val xs/2^(32*w+s)/4294967296^j=val (xs.drop (w+j))/2^s:=by
  rw[zjZ,J9,J9];congr 1;rw[zbd,zbd,←Ke,←Ke];congr 1;omega
 rw[e,zG,zG];generalize val (xs.drop (w+j+1+1))=R;generalize dig xs (w+j+1)=x;generalize dig xs (w+j)=y;have hp:2^s*2^(32-s)=4294967296:=by rw[←Ke,show s+(32-s)=32 by omega]
 have:y+4294967296*(x+4294967296*R)=(x*4294967296+y)+2^s*(2^(32-s)*4294967296*R):=by
  rw[show 2^s*(2^(32-s)*4294967296*R)=(2^s*2^(32-s))*4294967296*R by simp only[KC],hp];omega
 rw[this,Nat.add_mul_div_left _ _ (KX dC)];rw[show 2^(32-s)*4294967296*R=4294967296*(2^(32-s)*R) by rw[Kt (2^(32-s)),KC],JR]
end
open Go.Proofs
def dgE(d:Dig):List SV:=[.val (.int .u32 (d.val:Int))]
abbrev u32(n:Int):SV:=.val (.int .u32 n)
abbrev u64(n:Int):SV:=.val (.int .u64 n)
abbrev qq(xs:List Dig):Mem:=.arr 218 dgE 1 xs
def qP(xs:List Dig):zfX (qq xs):=λ_ _=>rfl
def qF(xs:List Dig):ziN (qq xs):=λ_ _=>rfl
def zj0(e:Int):IntKind.u32.wrap e=e%4294967296:=rfl
def yk(e:Int):IntKind.u64.wrap e=e%18446744073709551616:=rfl
def zhq(d:Dig):[d].length=1/\1<=281474976710656/\1*1<=16777216/\0<1/\∀x∈[d],(dgE x).length=1/\jX (dgE x)=true/\j9.flats (dgE x)=true:=
 ⟨rfl,dC,dC,dC,λ_ _=>⟨rfl,rfl,rfl⟩⟩
def ze5:([]:List Dig).length=0/\0<=281474976710656/\0*1<=16777216/\0<1/\∀x∈([]:List Dig),(dgE x).length=1/\jX (dgE x)=true/\j9.flats (dgE x)=true:=
 ⟨rfl,dC,dC,dC,λ_ _=>⟨rfl,rfl,rfl⟩⟩
def zhr{xs ys:List Dig}(h:xs.length+ys.length<=2000000000):((xs.length+ys.length:Int)*(4:Nat)<=140737488355328/\xs.length+ys.length<=281474976710656/\0<1/\∀x∈ys,(dgE x).length=1):=
 ⟨oM,oM,dC,λ_ _=>rfl⟩
def zgj(a b:Nat):Int:=if a<b then-1 else if b<a then 1 else 0
def zeo{a b:Nat}:zgj a b<0↔a<b:=by
 unfold zgj;split
 ·simp_all
 split <;> simp_all
def ztq{a b:Nat}:0<zgj a b↔b<a:=by
 unfold zgj;split
 ·simp;omega
 split <;> simp_all
def jz(a:List Dig)(ha:a.length<=1000000000):CG0 303 [.sl dgE a] [] (.own 0) [(0,qq (zm (val a)))]:=by
 refine qE tok mix Tryz.func303 rfl rfl rfl ?_;intro hl0;refine⟨Nat,λn=>⟨[(3,i64 n),(0,.sl dgE a)],[],0,34,0⟩,λn=>n<=a.length/\∀i,n<=i->dig a i=0,λn=>n,a.length,?_,?_,?_⟩
 ·exact⟨Xk _,λi h=>zaL h⟩
 ·exact zC []
 rintro n ⟨h1,h2⟩
 have post:∀(n:Nat),n<=a.length->(∀i,n<=i->dig a i=0)->(n=0∨dig a (n-1)≠0)->zm (val a)=a.take n:=λn h1 h2 h3=>(zjY h3 h1 h2).symm
 refine⟨λh3=>?_,λh3=>?_⟩
 ·refine Ar.o<|Ob.o ?_;intro x hx;refine⟨λh4=>?_,λh4=>?_⟩
  ·refine Ar.o<|⟨n-1,⟨oM,λi hi=>?_⟩,jh [] ⟨Xg (λn=>some (i64 n)) oM,rfl,trivial⟩ trivial,by dsimp only;omega⟩
   by_cases e:i=n-1
   ·subst e;rw[show((n:Int)-1).toNat=n-1 by omega]at hx;rw[zU hx];omega
   exact h2 i oM
  have h5:dig a (n-1)≠0:=by
   rw[show((n:Int)-1).toNat=n-1 by omega]at hx;rw[zU hx];omega
  rw[post n h1 h2 (.inr h5)];refine⟨Dig,dgE,[],rfl,Ob.mk ze5 ?_⟩;refine⟨Nat,λi=>⟨[(5,i64 i),(3,i64 n),(4,.own 0),(0,.sl dgE a)],[(0,qq (a.take i))],1,34,0⟩,λi=>i<=n,λi=>n-i,0,?_,?_,?_⟩
  ·exact Xh _
  ·exact zf [0]
  rintro i hi
  have hi:i<=n:=hi;refine⟨λk1=>?_,λk1=>?_⟩
  ·refine Ob.o ?_;intro y hy;refine⟨Dig,dgE,[y],rfl,Ob.mk (zhq y) ?_⟩;refine⟨_,rfl,Ob.mk (zhr (by simp;omega)) ?_⟩;refine Ar.o ?_
   refine⟨i+1,by show i+1<=n;omega,qI [(0,some 2)] rfl rfl rfl ⟨rfl,rfl,rfl,rfl,trivial⟩
    ⟨Xg (λl=>some (qq l)) (by rw[Xl,show a[i]?=some y from hy];rfl),trivial⟩,by dsimp only;omega⟩
  have hin:i=n:=by omega
  subst hin;exact⟨some 0,.own _ rfl,rfl,λ_ _=>rfl⟩
 have h5:n=0:=by omega
 rw[post n h1 h2 (.inl h5)];refine⟨Dig,dgE,[],rfl,Ob.mk ze5 ?_⟩;refine⟨Nat,λi=>⟨[(5,i64 i),(3,i64 n),(4,.own 0),(0,.sl dgE a)],[(0,qq (a.take i))],1,34,0⟩,λi=>i<=n,λi=>n-i,0,?_,?_,?_⟩
 ·exact Xh _
 ·exact zf [0]
 rintro i hi
 have hi:i<=n:=hi;refine⟨λk1=>?_,λk1=>?_⟩
 ·refine Ob.o ?_;intro y hy;refine⟨Dig,dgE,[y],rfl,Ob.mk (zhq y) ?_⟩;refine⟨_,rfl,Ob.mk (zhr (by simp;omega)) ?_⟩;refine Ar.o ?_
  refine⟨i+1,by show i+1<=n;omega,qI [(0,some 2)] rfl rfl rfl ⟨rfl,rfl,rfl,rfl,trivial⟩
   ⟨Xg (λl=>some (qq l)) (by rw[Xl,show a[i]?=some y from hy];rfl),trivial⟩,by dsimp only;omega⟩
 have hin:i=n:=by omega
 subst hin;exact⟨some 0,.own _ rfl,rfl,λ_ _=>rfl⟩
def yG(a:List Dig)(i:Int)(hi:0<=i):CG0 413 [.sl dgE a,i64 i] [] (u64 (dig a i.toNat)) []:=by
 refine zc Tryz.func413 ?_;refine⟨λh=>?_,λh=>?_⟩
 ·omega
 intro hl;refine⟨λh2=>?_,λh2=>?_⟩
 ·exact ze (by rw[zaL oM];rfl)
 refine Ob.o ?_;intro x hx;have:=x.isLt;exact Ar.o<|ze (by rw[zU hx])
def zbe{n:Nat}{e:Int}(h:e=n):((dof n).val:Int)=IntKind.u32.wrap e:=by rw[zj0,ky,h];omega
def zgk{a b:List Dig}{j:Nat}(h:∀i,j+1<=i->dig a i=dig b i)(hl:dig a j<dig b j):val a<val b:=by
 have e1:=kT a j;have e2:=kT b j;have e3:=qR a j;have e4:=zG a j;have e5:=zG b j;have e6:=zdA h;have:val (a.drop j)+1<=val (b.drop j):=oM;have:=Kf (4294967296^j) this;rw[KF]at this;omega
def zxc(a b:List Dig)(ha:a.length<=1000000000)(hb:b.length<=1000000000):
  CG0 414 [.sl dgE a,.sl dgE b] [] (i64 (zgj (val a) (val b))) []:=by
 refine zc Tryz.func414 ?_;intro hl1 hl2;refine Ar.fit (by simp only[zc9];omega)<|⟨Nat,λj=>⟨[(5,i64 ((j:Int)-1)),(0,.sl dgE a),(1,.sl dgE b)],[],0,30,0⟩,λj=>j<=1000000000/\∀i,j<=i->dig a i=dig b i,λj=>j,max a.length b.length,?_,?_,?_⟩
 ·exact⟨oM,λi hi=>by rw[zaL oM,zaL oM]⟩
 ·exact jh [] ⟨Xg (λn=>some (i64 n)) (by simp only[zc9];omega),rfl,rfl,trivial⟩ trivial
 rintro j ⟨h1,h2⟩
 refine⟨λh3=>?_,λh3=>?_⟩
 ·have e:((j:Int)-1).toNat=j-1:=by omega
  have h2':∀i,j-1+1<=i->dig a i=dig b i:=λi hi=>h2 i oM
  refine zb.t (yG a _ oM)<|zb.t (yG b _ oM)<|⟨λh4=>?_,λh4=>?_⟩
  ·have:=zgk h2' (by rw[e]at h4;omega);exact ze (by rw[zgj,Xe this])
  refine zb.t (yG a _ oM)<|zb.t (yG b _ oM)<|⟨λh5=>?_,λh5=>?_⟩
  ·have:=zgk (λi hi=>(h2' i hi).symm) (by rw[e]at h5;omega);exact ze (by rw[zgj,Xc oM,Xe this])
  refine Ar.o<|⟨j-1,⟨oM,λi hi=>?_⟩,jh [] ⟨Xg (λn=>some (i64 n)) oM,rfl,rfl,trivial⟩ trivial,by dsimp only;omega⟩
  by_cases hij:i=j-1
  ·subst hij;rw[e]at h4 h5;omega
  exact h2 i oM
 have hj:j=0:=by omega
 subst hj;have:=zme λi=>h2 i (Xh _)
 exact ze (by rw[zgj,Xc oM,Xc oM])
def zDb(a b:List Dig)(ha:a.length<=900000000)(hb:b.length<=900000000):
  CG0 352 [.sl dgE a,.sl dgE b] [] (.own 0) [(0,qq (zm (val a+val b)))]:=by
 refine qE tok mix Tryz.func352 rfl rfl rfl<|⟨Dig,dgE,[],rfl,Ob.mk ze5 ?_⟩
 refine⟨Nat×List Dig×Nat,λq=>⟨[(7,i64 q.1),(6,u64 q.2.2),(5,.own 0),(0,.sl dgE a),(1,.sl dgE b)],[(0,qq q.2.1)],1,42,0⟩,
  λq=>q.1<=max a.length b.length/\q.2.1.length=q.1/\q.2.2<=1/\val q.2.1+4294967296^q.1*q.2.2=val (a.take q.1)+val (b.take q.1),λq=>max a.length b.length-q.1,(0,[],0),?_,?_,?_⟩
 ·exact⟨Xh _,rfl,Xh _,rfl⟩
 ·exact zf [0]
 rintro⟨i,out,c⟩ ⟨h1,h2,h3,h4⟩
 dsimp only at h1 h2 h3 h4;intro hl1 hl2;refine⟨λh5=>?_,λh5=>?_⟩
 ·simp only[zc9]at h5;have d1:=yR a i;have d2:=yR b i;refine zb.t (yG a _ oM)<|zb.t (yG b _ oM) ?_;simp only[XT];(iterate 2 refine Ar.o ?_);refine Ar.wrap<|⟨Dig,dgE,[dof (dig a i+dig b i+c)],Xg (λn=>[u32 n]) (zbe oM),Ob.mk (zhq _) ?_⟩;refine⟨_,rfl,Ob.mk (zhr (by simp;omega)) ?_⟩;refine Ob.o1<|Ar.o ?_
  refine⟨(i+1,out++[dof (dig a i+dig b i+c)],(dig a i+dig b i+c)/4294967296),⟨by dsimp only;omega,by simp[h2],by dsimp only;omega,?_⟩,
   zT [2] ⟨rfl,Xg (λn=>some (u64 n)) (by dsimp only;omega),rfl,rfl,rfl,trivial⟩ ⟨rfl,trivial⟩,by dsimp only;omega⟩
  dsimp only;rw[vo,h2,ky,zQ,zQ,XU];have e:=X7 (dig a i+dig b i+c) 4294967296;generalize (dig a i+dig b i+c)/4294967296=x at*;generalize (dig a i+dig b i+c)%4294967296=y at*;generalize 4294967296^i=p at*
  grind
 simp only[zc9]at h5;have hi:i=max a.length b.length:=oM;refine Ar.wrap<|⟨Dig,dgE,[dof c],Xg (λn=>[u32 n]) (zbe rfl),Ob.mk (zhq _) ?_⟩;refine⟨_,rfl,Ob.mk (zhr (by simp;omega)) ?_⟩;refine zb.fresh _ _ (jz _ (by simp;omega)) rfl (qP _) (.inr (qF _))<|⟨some 3,.own _ rfl,?_,λ_ _=>rfl⟩
 have e:val (out++[dof c])=val a+val b:=by
  rw[vo,h2,ky,Xy oM,h4,kU oM,kU oM]
 rw[←e];rfl
def uH(a:List Dig)(ha:a.length<=1000000000):CG0 303 [.sl dgE a] [] (.sl dgE (zm (val a))) []:=
 (jz a ha).plain rfl
def ziV(a b:List Dig)(ha:a.length<=900000000)(hb:b.length<=900000000):
  CG0 352 [.sl dgE a,.sl dgE b] [] (.sl dgE (zm (val a+val b))) []:=(zDb a b ha hb).plain rfl
def zxd(a b:List Dig)(ha:a.length<=900000000)(hb:b.length<=900000000):
  CG0 353 [.sl dgE a,.sl dgE b] [] (.tup [.own 0,pr (val b<=val a)]) [(0,qq (zm (val a-val b)))]:=by
 refine qE tok mix Tryz.func353 rfl rfl rfl<|zb.t (zxc a b oM oM)<|⟨λh=>?_,λh=>?_⟩
 ·have hlt:val a<val b:=zeo.1 h;refine⟨none,zjS (.cons (.nil rfl) (.cons (.le _ _ (zd oM) rfl) .nil)),?_⟩;show zm (val a-val b)=[];rw[Yq oM];exact jZ
 have hle:val b<=val a:=QX λh'=>h (zeo.2 h')
 refine⟨Dig,dgE,[],rfl,Ob.mk ze5 ?_⟩
 refine⟨Nat×List Dig×Nat,λ⟨i,out,c⟩=>⟨[(8,i64 i),(7,u64 c),(6,.own 0),(0,.sl dgE a),(1,.sl dgE b)],[(0,qq out)],1,41,0⟩,
  λq=>q.1<=a.length/\q.2.1.length=q.1/\q.2.2<=1/\val q.2.1+val (b.take q.1)=val (a.take q.1)+4294967296^q.1*q.2.2,λq=>a.length-q.1,(0,[],0),?_,?_,?_⟩
 ·exact⟨Xh _,rfl,Xh _,rfl⟩
 ·exact zf [0]
 rintro⟨i,out,c⟩ ⟨h1,h2,h3,h4⟩
 dsimp only at h1 h2 h3 h4;intro hl1;refine⟨λh5=>?_,λh5=>?_⟩
 ·have d1:=yR a i;have d2:=yR b i;refine zb.t (yG a _ oM) ?_;simp only[XT];refine Ar.o<|zb.t (yG b _ oM) ?_;simp only[XT];(iterate 2 refine Ar.o ?_);refine Ar.wrap<|⟨Dig,dgE,[dof (4294967296+dig a i-dig b i-c)],Xg (λn=>[u32 n]) (zbe oM),Ob.mk (zhq _) ?_⟩;refine⟨_,rfl,Ob.mk (zhr (by simp;omega)) ?_⟩;refine Ob.o1<|Ar.fit (by simp only[Int.reducePow];omega)<|Ar.o ?_
  refine⟨(i+1,out++[dof (4294967296+dig a i-dig b i-c)],1-(4294967296+dig a i-dig b i-c)/4294967296),⟨by dsimp only;omega,by simp[h2],by dsimp only;omega,?_⟩,
   zT [2] ⟨rfl,Xg (λn=>some (u64 n)) (by dsimp only;omega),rfl,rfl,rfl,trivial⟩ ⟨rfl,trivial⟩,by dsimp only;omega⟩
  dsimp only;rw[vo,h2,ky,zQ,zQ,XU];have e:(4294967296+dig a i-dig b i-c)%4294967296+dig b i+c=dig a i+4294967296*(1-(4294967296+dig a i-dig b i-c)/4294967296):=oM;generalize 1-(4294967296+dig a i-dig b i-c)/4294967296=x at*;generalize (4294967296+dig a i-dig b i-c)%4294967296=y at*;generalize 4294967296^i=p at*
  have e2:p*y+p*dig b i+p*c=p*dig a i+p*4294967296*x:=by
   rw[←KF,←KF,e,KF,KC]
  omega
 have hi:i=a.length:=by omega
 refine zb.fresh _ _ (jz _ oM) rfl (qP _) (.inr (qF _))<|⟨some 1,zjS (.cons (.own _ rfl) (.cons (.le _ _ (zI hle) rfl) .nil)),?_,λ_ _=>rfl⟩
 have e:val out=val a-val b:=by
  subst hi;have e0:val (a.take a.length)=val a:=kU (Xk _);rw[e0]at h4;have e1:=kT b a.length;have e2:=q9 a
  have e3:val (b.drop a.length)=0:=by
   rcases Ks (val (b.drop a.length)) with h|h
   ·exact h
   have:=Kf (4294967296^a.length) h;omega
  have e4:=q9 out;rw[h2]at e4;rw[e3]at e1;have:c=0∨c=1:=oM
  rcases this with rfl|rfl <;> omega
 rw[←e];rfl
def znW(a b:List Dig)(ha:a.length<=900000000)(hb:b.length<=900000000):
  CG0 353 [.sl dgE a,.sl dgE b] [] (.tup [.sl dgE (zm (val a-val b)),pr (val b<=val a)]) []:=(zxd a b ha hb).plain rfl
def zxe{x y c:Nat}(hx:x<4294967296)(hy:y<4294967296)(hc:c<4294967296):x*y+c<=18446744069414584320:=by
 have:x*y<=4294967295*4294967295:=Qs oM oM;omega
def zep{x y:Nat}(hx:x<4294967296)(hy:y<4294967296):x*y<=18446744065119617025:=by
 have:x*y<=4294967295*4294967295:=Qs oM oM;omega
def zpL{p q x y z c u v w o o0 r:Nat}(h4:o+p*q*c=o0+p*(x*w))(hs:r+p*q*z=o+p*q*v)(e:4294967296*u+v=x*y+z+c):
  r+p*q*4294967296*u=o0+p*(x*(w+q*y)):=by grind
def zxf(a:List Dig)(d:Nat)(ha:a.length<=900000000)(hd:d<4294967296):
  CG0 430 [.sl dgE a,u64 d] [] (.own 0) [(0,qq (zm (val a*d)))]:=by
 refine qE tok mix Tryz.func430 rfl rfl rfl<|⟨Dig,dgE,[],rfl,Ob.mk ze5 ?_⟩
 refine⟨Nat×List Dig×Nat,λ⟨i,out,c⟩=>⟨[(7,i64 i),(6,u64 c),(5,.own 0),(0,.sl dgE a),(1,u64 d)],[(0,qq out)],1,39,0⟩,
  λq=>q.1<=a.length/\q.2.1.length=q.1/\q.2.2<4294967296/\val q.2.1+4294967296^q.1*q.2.2=val (a.take q.1)*d,λq=>a.length-q.1,(0,[],0),?_,?_,?_⟩
 ·exact⟨Xh _,rfl,dC,by simp[val]⟩
 ·exact zf [0]
 rintro⟨i,out,c⟩ ⟨h1,h2,h3,h4⟩
 dsimp only at h1 h2 h3 h4;intro hl1;refine⟨λh5=>?_,λh5=>?_⟩
 ·refine Ob.o ?_;intro x hx;have hx:a[i]?=some x:=hx;have dx:=zU hx;have hm:=zxe x.isLt hd h3;have hm0:=zep x.isLt hd;have hxl:=x.isLt;(iterate 3 refine Ar.o ?_);refine Ar.wrap<|⟨Dig,dgE,[dof (x.val*d+c)],Xg (λn=>[u32 n]) (zbe oM),Ob.mk (zhq _) ?_⟩;refine⟨_,rfl,Ob.mk (zhr (by simp;omega)) ?_⟩;refine Ob.o1<|Ar.o ?_
  refine⟨(i+1,out++[dof (x.val*d+c)],(x.val*d+c)/4294967296),⟨by dsimp only;omega,by simp[h2],by dsimp only;omega,?_⟩,
   zT [2] ⟨rfl,Xg (λn=>some (u64 n)) (by dsimp only;omega),rfl,rfl,rfl,trivial⟩ ⟨rfl,trivial⟩,by dsimp only;omega⟩
  dsimp only;rw[vo,h2,ky,zQ,XU,dx];have e:=X7 (x.val*d+c) 4294967296;generalize (x.val*d+c)/4294967296=u at*;generalize (x.val*d+c)%4294967296=v at*;generalize 4294967296^i=p at*;generalize x.val=x at*;generalize val (a.take i)=w at*;clear hm hm0
  grind
 have hi:i=a.length:=by omega
 refine Ar.wrap<|⟨Dig,dgE,[dof c],Xg (λn=>[u32 n]) (zbe rfl),Ob.mk (zhq _) ?_⟩;refine⟨_,rfl,Ob.mk (zhr (by simp;omega)) ?_⟩;refine zb.fresh _ _ (jz _ (by simp;omega)) rfl (qP _) (.inr (qF _))<|⟨some 3,.own _ rfl,?_,λ_ _=>rfl⟩
 have e:val (out++[dof c])=val a*d:=by
  rw[vo,h2,ky,Xy oM,h4,kU oM]
 rw[←e];rfl
def zu2(a:List Dig)(d:Nat)(ha:a.length<=900000000)(hd:d<4294967296):
  CG0 430 [.sl dgE a,u64 d] [] (.sl dgE (zm (val a*d))) []:=(zxf a d ha hd).plain rfl
def zDc(a b:List Dig)(ha:a.length<=400000000)(hb:b.length<=400000000):
  CG0 348 [.sl dgE a,.sl dgE b] [] (.own 0) [(0,qq (zm (val a*val b)))]:=by
 refine qE tok mix Tryz.func348 rfl rfl rfl ?_;intro hl1 hl2;(iterate 2 refine Ar.o ?_);refine⟨Dig,dgE,0,rfl,Ob.o7 ?_⟩
 refine⟨Nat×List Dig,λ⟨i,out⟩=>⟨[(6,i64 i),(5,.own 0),(0,.sl dgE a),(1,.sl dgE b)],[(0,qq out)],1,69,0⟩,
  λq=>q.1<=a.length/\q.2.length=a.length+b.length+1/\val q.2=val (a.take q.1)*val b/\∀j,q.1+b.length<=j->dig q.2 j=0,λq=>a.length-q.1,(0,List.replicate (a.length+b.length+1) 0),?_,?_,?_⟩
 ·exact⟨Xh _,by simp,by simp[zaT,val],λj _=>yN _ _⟩
 ·exact zu [0] ⟨Xg (λn=>some (qq (List.replicate n 0))) oM,trivial⟩
 rintro⟨i,out0⟩ ⟨h1,h2,h3,h4⟩
 dsimp only at h1 h2 h3 h4;intro hl3;refine⟨λh5=>?_,λh5=>?_⟩
 ·refine⟨Nat×List Dig×Nat,λ⟨k,out,c⟩=>⟨[(8,i64 k),(7,u64 c),(6,i64 i),(5,.own 0),(0,.sl dgE a),(1,.sl dgE b)],[(0,qq out)],1,69,0⟩,
   λq=>q.1<=b.length/\q.2.1.length=a.length+b.length+1/\q.2.2<4294967296/\val q.2.1+4294967296^(i+q.1)*q.2.2=val out0+4294967296^i*(dig a i*val (b.take q.1))/\∀j,i+b.length<=j->dig q.2.1 j=0,λq=>b.length-q.1,(0,out0,0),?_,?_,?_⟩
  ·exact⟨Xh _,h2,by dsimp only;omega,by simp[val],h4⟩
  ·exact zf [0]
  rintro⟨k,out,c⟩ ⟨g1,g2,g3,g4,g5⟩
  dsimp only at g1 g2 g3 g4 g5;intro hl4;refine⟨λg6=>?_,λg6=>?_⟩
  ·refine Dr.k<|Ob.o ?_;intro x hx;have hx:a[i]?=some x:=hx;have dx:=zU hx;have hxl:=x.isLt;refine Ar.o<|Ob.o ?_;intro y hy;have hy:b[k]?=some y:=hy;have dy:=zU hy;have hyl:=y.isLt;refine Ar.o ?_;have hm0:=zep hxl hyl;(iterate 2 refine Ar.o ?_);refine Ob.o<|Ob.o ?_;intro z hz;rw[show((i:Int)+k).toNat=i+k by omega]at hz;have dz:=zU hz;have hzl:=z.isLt;(iterate 4 refine Ar.o ?_);refine Ar.wrap<|Ob.o<|Ob.o ?_;intro z' hz'
   refine⟨dof (x.val*y.val+z.val+c),Xg (λn=>[u32 n]) (zbe oM),?_⟩;refine Ob.o1<|Ar.o ?_
   refine⟨(k+1,out.set (i+k) (dof (x.val*y.val+z.val+c)),(x.val*y.val+z.val+c)/4294967296),⟨by dsimp only;omega,by simp[g2],by dsimp only;omega,?_,?_⟩,
    zT [0] ⟨rfl,Xg (λn=>some (u64 n)) (by dsimp only;omega),rfl,rfl,rfl,rfl,trivial⟩ ⟨Xg (λn=>some (qq (out.set n _))) oM,trivial⟩,by dsimp only;omega⟩
   ·dsimp only;have hs:=v6 out (i+k) (dof (x.val*y.val+z.val+c)) oM;rw[ky,dz]at hs;rw[zQ,dy,←KB i k 1,XU];rw[dx]at g4 ⊢;have e:=X7 (x.val*y.val+z.val+c) 4294967296;rw[Ke]at g4 hs ⊢;exact zpL g4 hs e
   intro j hj;dsimp only;rw[jQ,Xc oM];exact g5 j hj
  have hk:k=b.length:=by omega
  intro hl5;refine Ar.o<|Ar.wrap<|Ob.o<|Ob.o ?_;intro z' hz';refine⟨dof c,Xg (λn=>[u32 n]) (zbe rfl),?_⟩;refine Ar.o ?_
  refine⟨(i+1,out.set (i+b.length) (dof c)),⟨by dsimp only;omega,by simp[g2],?_,?_⟩,
   zu [0] ⟨Xg (λn=>some (qq (out.set n _))) oM,trivial⟩,by dsimp only;omega⟩
  ·dsimp only;have hs:=v6 out (i+b.length) (dof c) oM;rw[ky,g5 _ (Xk _),Xy g3]at hs;rw[hk,kU (Xk _),h3]at g4;rw[zQ];generalize val (out.set (i+b.length) _)=r at*;generalize 4294967296^i=p at*;generalize 4294967296^(i+b.length)=q at*;generalize val (a.take i)=w at*;generalize dig a i=x at*;generalize val out=o at*;clear h4 g5
   grind
  intro j hj;dsimp only;rw[jQ,Xc oM];exact g5 j oM
 have hi:i=a.length:=by omega
 refine zb.fresh _ _ (jz _ oM) rfl (qP _) (.inr (qF _))<|⟨some 1,.own _ rfl,?_,λ_ _=>rfl⟩;rw[hi,kU (Xk _)]at h3;rw[←h3];rfl
def zAu(a b:List Dig)(ha:a.length<=400000000)(hb:b.length<=400000000):
  CG0 348 [.sl dgE a,.sl dgE b] [] (.sl dgE (zm (val a*val b))) []:=(zDc a b ha hb).plain rfl
def zgl(a:List Dig):kA (val a)<=32*a.length:=by
 by_cases h:val a=0
 ·rw[h,zr5];omega
 have h1:=zb0 h;have h2:=q9 a;rw[zbd]at h2;have:=(QE (by decide:1<2)).1 (K6 h1 h2);omega
def zmf(a:List Dig)(ha:a.length<=900000000):CG0 351 [.sl dgE a] [] (i64 (kA (val a))) []:=by
 refine zc Tryz.func351 ?_;refine zb.t (uH _ oM) ?_;intro hl;have hlen:=zJ a;refine⟨λh=>?_,λh=>?_⟩
 ·have:zm (val a)=[]:=XM.1 oM;exact ze (by rw[yF.1 this];rfl)
 have hne:zm (val a)≠[]:=λe=>h (by rw[e];rfl)
 have hn:=(vN (val a)).resolve_left hne;have htop:=zb2 hn;rw[zo]at htop;intro hl2;(iterate 2 refine Ar.o ?_);intro hl3;refine Ar.o<|Ob.o ?_;intro x hx;rw[show(((zm (val a)).length:Int)-1).toNat=(zm (val a)).length-1 by omega]at hx;have dx:=zU hx;have hxl:=x.isLt;have hb:=zgl a;refine⟨Nat×Nat,λ⟨n,t⟩=>⟨[(4,i64 n),(5,u32 t)],[],0,28,0⟩,λq=>q.2<4294967296/\q.1+kA q.2=kA (val a),λq=>q.2,(32*((zm (val a)).length-1),x.val),?_,?_,?_⟩
 ·exact⟨hxl,by dsimp only;rw[htop,dx]⟩
 ·exact jh [] ⟨Xg (λn=>some (i64 n)) oM,rfl,trivial⟩ trivial
 rintro⟨n,t⟩ ⟨g1,g2⟩
 dsimp only at g1 g2;refine⟨λg3=>?_,λg3=>?_⟩
 ·have hh:=zr6 (n:=t) oM;exact Ar.o<|Dv.pos ⟨oM,oM,by show _<=(4294967295:Int);omega⟩<|⟨(n+1,t/2),⟨by dsimp only;omega,by dsimp only;omega⟩,jh [] ⟨rfl,Xg (λn=>some (u32 n)) oM,trivial⟩ trivial,by dsimp only;omega⟩
 have:t=0:=by omega
 subst this;exact ze (by rw[←g2];rfl)
def zAv{p s x c u v w o M:Nat}(h4:o+p*M*c=p*(s*w))(e:4294967296*u+v=x*s+c):
  o+p*M*v+p*(M*4294967296)*u=p*(s*(w+M*x)):=by grind
def zCm(a:List Dig)(n:Nat)(ha:a.length<=800000000)(hn:n<=4096):
  CG0 429 [.sl dgE a,i64 n] [] (.own 0) [(0,qq (zm (val a*2^n)))]:=by
 refine qE tok mix Tryz.func429 rfl rfl rfl ?_;have hs0:2^(n%32)<=2^31:=XH dC oM;have hs1:0<2^(n%32):=KX dC;generalize hs:2^(n%32)=s at*;refine Dv.pos ⟨oM,oM,by show _<=(9223372036854775807:Int);omega⟩<|⟨Dig,dgE,0,rfl,Ob.o7 ?_⟩
 refine⟨Nat×List Dig×Nat,λ⟨i,out,c⟩=>⟨[(7,i64 i),(6,u64 c),(5,.own 0),(0,.sl dgE a),(1,i64 n)],[(0,qq out)],1,43,0⟩,
  λq=>q.1<=a.length/\q.2.1.length=n/32+q.1/\q.2.2<s/\val q.2.1+4294967296^(n/32)*4294967296^q.1*q.2.2=4294967296^(n/32)*(s*val (a.take q.1)),λq=>a.length-q.1,(0,List.replicate (n/32) 0,0),?_,?_,?_⟩
 ·exact⟨Xh _,by simp,hs1,by simp[zaT,val]⟩
 ·exact zu [0] ⟨Xg (λn=>some (qq (List.replicate n 0))) oM,trivial⟩
 rintro⟨i,out,c⟩ ⟨h1,h2,h3,h4⟩
 dsimp only at h1 h2 h3 h4;intro hl1;refine⟨λh5=>?_,λh5=>?_⟩
 ·refine Ob.o ?_;intro x hx;have hx:a[i]?=some x:=hx;have dx:=zU hx;have hxl:=x.isLt;refine Ar.o<|Dv.pos ⟨oM,oM⟩<|Ar.o<|Ob.o12 ?_;have hm:x.val*s<=4294967295*2^31:=Qs oM hs0
  have hm2:(x.val:Int)*2^((n:Int)%32).toNat=((x.val*s:Nat):Int):=by
   rw[←hs,show((n:Int)%32).toNat=n%32 by omega];simp
  have hm3:x.val*s+c<4294967296*s:=by
   have:x.val*s<=4294967295*s:=Xu _ oM;omega
  refine Ar.fit (by rw[hm2];omega)<|Ar.fit (by rw[hm2];omega)<|Ar.wrap<|⟨Dig,dgE,[dof (x.val*s+c)],Xg (λn=>[u32 n]) (zbe (by rw[hm2];omega)),Ob.mk (zhq _) ?_⟩;refine⟨_,rfl,Ob.mk (zhr (by simp;omega)) ?_⟩;refine Ob.o1<|Ar.o ?_
  refine⟨(i+1,out++[dof (x.val*s+c)],(x.val*s+c)/4294967296),⟨by dsimp only;omega,by simp[h2];omega,by dsimp only;omega,?_⟩,
   zT [2] ⟨rfl,Xg (λn=>some (u64 n)) (by rw[hm2];dsimp only;omega),rfl,rfl,rfl,trivial⟩ ⟨rfl,trivial⟩,by dsimp only;omega⟩
  dsimp only;rw[vo,h2,ky,zQ,dx,XU,Ke];exact zAv h4 (X7 (x.val*s+c) 4294967296)
 have hi:i=a.length:=by omega
 refine Ar.wrap<|⟨Dig,dgE,[dof c],Xg (λn=>[u32 n]) (zbe rfl),Ob.mk (zhq _) ?_⟩;refine⟨_,rfl,Ob.mk (zhr (by simp;omega)) ?_⟩;refine zb.fresh _ _ (jz _ (by simp;omega)) rfl (qP _) (.inr (qF _))<|⟨some 3,.own _ rfl,?_,λ_ _=>rfl⟩
 have e:val (out++[dof c])=val a*2^n:=by
  rw[vo,h2,ky,Xy oM,Ke,h4,kU oM,←hs,zbd];rw[←KC,←Ke,show 32*(n/32)+n%32=n by omega,Kt]
 rw[←e];rfl
def zDd(a:List Dig)(n:Nat)(ha:a.length<=800000000)(hn:n<=4096):
  CG0 367 [.sl dgE a,i64 n] [] (.own 0) [(0,qq (zm (val a*2^n)))]:=by
 refine qE tok mix Tryz.func367 rfl rfl rfl<|Br.mk (λh=>?_) (λh=>absurd oM h);have e:zbM (n:Int) [4096]=n:=by simp only[zbM];omega
 exact zb.fresh _ _ (show CG0 _ [.sl dgE a,i64 (zbM (n:Int) [4096])] [] (.own 0) [(0,qq (zm (val a*2^n)))] by rw[e];exact zCm a n ha hn) rfl (qP _) (.inr (qF _))<|⟨some 0,.own _ rfl,rfl,λ_ _=>rfl⟩
def zDe(a:List Dig)(n:Nat)(ha:a.length<=800000000)(hn:n<=1000000000000):
  CG0 367 [.sl dgE a,i64 (-(n:Int))] [] (.own 0) [(0,qq (zm (val a/2^n)))]:=by
 refine qE tok mix Tryz.func367 rfl rfl rfl<|Br.mk (λh=>?_) (λh=>?_)
 ·have hn0:n=0:=by omega
  subst hn0
  refine zb.fresh _ _ (show CG0 _ [.sl dgE a,i64 (zbM (-((0:Nat):Int)) [4096])] [] (.own 0) [(0,qq (zm (val a/2^0)))] by
   have:=zCm a 0 ha oM;rw[show zbM (-((0:Nat):Int)) [4096]=0 by decide,Jn,Nat.div_one];rw[Jn,Je]at this
   exact this) rfl (qP _) (.inr (qF _)) ?_
  exact⟨some 0,.own _ rfl,rfl,λ_ _=>rfl⟩
 intro hl;refine Ar.o<|Br.mk (λh2=>?_) (λh2=>?_)
 ·refine⟨Dig,dgE,[],rfl,Ob.mk ze5 ?_⟩;refine⟨some 0,.own _ rfl,?_,λ_ _=>rfl⟩
  have e:val a/2^n=0:=by
   refine Kh (Xw (q9 a) ?_);rw[zbd];exact XH dC oM
  rw[e,jZ];rfl
 refine⟨Dig,dgE,[],rfl,Ob.mk ze5 ?_⟩;refine Ar.o<|Dv.pos ⟨oM,oM,by show _<=(9223372036854775807:Int);omega⟩ ?_
 refine⟨Nat×List Dig,λ⟨i,out⟩=>⟨[(6,i64 ((n/32+i:Nat))),(5,.own 0),(0,.sl dgE a),(1,i64 (-(n:Int)))],[(0,qq out)],1,51,0⟩,
  λq=>q.1+n/32<=a.length/\q.2.length=q.1/\∀j,j<q.2.length->dig q.2 j=val a/2^n/4294967296^j%4294967296,λq=>a.length-q.1,(0,[]),?_,?_,?_⟩
 ·exact⟨by dsimp only;omega,rfl,λj h=>by simp at h⟩
 ·exact zT [0] ⟨Xg (λn=>some (i64 n)) oM,rfl,rfl,rfl,trivial⟩ ⟨rfl,trivial⟩
 rintro⟨i,out⟩ ⟨g1,g2,g3⟩
 dsimp only at g1 g2 g3;intro hl1;refine⟨λh5=>?_,λh5=>?_⟩
 ·have d1:=yR a (n/32+i);have d2:=yR a (n/32+i+1);have hw:(((n/32+i:Nat):Int)+1).toNat=n/32+i+1:=oM;refine Ar.o<|zb.t (yG a _ oM) ?_;rw[hw];refine Ob.o1<|Ar.fit (by simp only[Int.reducePow];omega)<|zb.t (yG a _ oM) ?_;simp only[XT];refine Ar.fit (by simp only[Int.reducePow];omega)<|Ar.o<|Dv.pos ⟨oM,oM⟩<|Ar.o<|Ob.o12<|Ar.wrap ?_;have es:((-(-(n:Int)))%32).toNat=n%32:=oM
  refine⟨Dig,dgE,[dof ((dig a (n/32+i+1)*4294967296+dig a (n/32+i))/2^(n%32))],Xg (λn=>[u32 n]) (zbe (by rw[es];simp)),Ob.mk (zhq _) ?_⟩;refine⟨_,rfl,Ob.mk (zhr (by simp;omega)) ?_⟩;refine Ar.o ?_
  refine⟨(i+1,out++[dof ((dig a (n/32+i+1)*4294967296+dig a (n/32+i))/2^(n%32))]),⟨by dsimp only;omega,by simp[g2],?_⟩,
   zT [2] ⟨Xg (λn=>some (i64 n)) oM,rfl,rfl,rfl,trivial⟩ ⟨rfl,trivial⟩,by dsimp only;omega⟩
  intro j hj;dsimp only at hj ⊢;rw[Xq,Kc]at hj;rw[zr4]
  split
  ·exact g3 j oM
  have hji:j=i:=by omega
  subst hji;have:=ztp a (n/32) (n%32) j oM;rw[show 32*(n/32)+n%32=n by omega]at this;rw[this,g2,QY,ze3,ky]
 refine zb.fresh _ _ (jz _ oM) rfl (qP _) (.inr (qF _))<|⟨some 1,.own _ rfl,?_,λ_ _=>rfl⟩
 have e:val out=val a/2^n:=by
  rw[zdC g3,Xy];rw[XS (KX dC)];refine Xw (q9 a) ?_;rw[zbd,zbd,←Ke];exact XH dC oM
 rw[←e];rfl
def ztr(a:List Dig)(n:Nat)(ha:a.length<=800000000)(hn:n<=4096):
  CG0 367 [.sl dgE a,i64 n] [] (.sl dgE (zm (val a*2^n))) []:=(zDd a n ha hn).plain rfl
def zxg{r b:List Dig}(hb:dig b (b.length-1)≠0)(hlt:val r<4294967296*val b):
  val r/val b<=(dig r b.length*4294967296+dig r (b.length-1))/dig b (b.length-1):=by
 have hl:0<b.length:=by
  rcases Ks b.length with h|h
  ·rw[XM.1 h]at hb;exact absurd rfl hb
  exact h
 have e1:=kT b (b.length-1);have e3:=zG b (b.length-1);rw[show b.length-1+1=b.length by omega,z8 (Xk _),Ko,XQ]at e3;have r1:=kT r (b.length-1);have r2:=qR r (b.length-1);have r3:=zG r (b.length-1);have r4:=zG r b.length;rw[show b.length-1+1=b.length by omega]at r3;have hbl:=q9 b;have hpow:4294967296^b.length=4294967296^(b.length-1)*4294967296:=by rw[←XU];congr 1;omega
 have r5:val (r.drop (b.length+1))=0:=by
  rw[zjZ];refine Kh (Nat.lt_trans hlt ?_);rw[XU,Kt];exact KL hbl dC
 rw[r5,Ko,XQ]at r4;rw[r4]at r3;rw[e3]at e1;rw[r3]at r1;have hp:=zdz (b.length-1);generalize 4294967296^(b.length-1)=p at*;generalize dig b (b.length-1)=t at*;generalize dig r (b.length-1)=x at*;generalize dig r b.length=y at*;rw[Jp oM];have h6:=JG (val r) (val b);generalize val r/val b=q at*;have h7:q*(p*t)<=q*val b:=Kf _ oM
 have h8:p*(q*t)<p*(x+4294967296*y+1):=by
  have:q*(p*t)=p*(q*t):=by rw[←KC,Kt q p,KC]
  rw[KF p _ 1];omega
 have:=JS h8;omega
def zxh{a q:Nat}{e:Int}(he:e=a)(ha:q<=a)(hb:q<4294967296):∃m:Nat,m<4294967296/\q<=m/\zbM e [4294967295]=m:=by
 rcases Int.le_total e 4294967295 with h|h
 ·exact⟨a,oM,ha,by simp only[zbM];rw[Int.min_eq_left h,he]⟩
 exact⟨4294967295,oM,oM,by simp only[zbM];rw[Int.min_eq_right h];simp⟩
def zxi(r b:List Dig)(hr:r.length<=800000000)(hb:b.length<=800000000)(ht:dig b (b.length-1)≠0)(hlt:val r<4294967296*val b):
  CG0 368 [.sl dgE r,.sl dgE b] [] (.tup [u64 ((val r/val b:Nat):Int),.own 0]) [(0,qq (zm (val r%val b)))]:=by
 refine qE tok mix Tryz.func368 rfl rfl rfl ?_
 have hl:0<b.length:=by
  rcases Ks b.length with h|h
  ·rw[XM.1 h]at ht;exact absurd rfl ht
  exact h
 have hbp:0<val b:=by
  rcases Ks (val b) with h|h
  ·rw[h]at hlt;omega
  exact h
 have hest:=zxg ht hlt;have hq:val r/val b<4294967296:=by rw[XS hbp];exact hlt
 have d1:=yR r b.length;have d2:=yR r (b.length-1);have d3:=yR b (b.length-1);intro hl0;refine Dr.k<|zb.t (yG r _ oM) ?_;rw[XT];refine Ob.o1<|Ar.fit (by simp only[Int.reducePow];omega)<|Ar.o<|zb.t (yG r _ oM) ?_;rw[show((b.length:Int)-1).toNat=b.length-1 by omega];refine Ar.fit (by simp only[Int.reducePow];omega)<|Ar.o<|Ob.o ?_;intro x hx;rw[show((b.length:Int)-1).toNat=b.length-1 by omega]at hx;have dx:=zU hx;rw[dx]at ht hest d3;refine Ar.o ?_
 refine Dv.pos ⟨by simp only[Int.reducePow];omega,oM,by show _<=(18446744073709551615:Int);simp only[Int.reducePow];omega⟩ ?_;obtain⟨m,hm1,hm2,em⟩:=zxh (e:=((dig r b.length:Nat)*2^32+(dig r (b.length-1):Nat):Int)/((x.val:Nat):Int)) (by simp) hest hq;clear hest
 refine zb.to _ (show CG0 _ [.sl dgE b,u64 (zbM (((dig r b.length:Nat)*2^32+(dig r (b.length-1):Nat):Int)/((x.val:Nat):Int)) [4294967295])] [] (.sl dgE (zm (val b*m))) [] by
  rw[em];exact zu2 b m oM oM) rfl ?_
 refine⟨Nat,λd=>⟨[(8,u64 d),(9,.sl dgE (zm (val b*d))),(0,.sl dgE r),(1,.sl dgE b)],[],0,55,0⟩,λd=>val r/val b<=d/\d<4294967296,λd=>d,m,?_,?_,?_⟩
 ·exact⟨hm2,oM⟩
 ·exact jh [] ⟨Xg (λn=>some (u64 n)) em,rfl,rfl,rfl,trivial⟩ trivial
 rintro d ⟨h1,h2⟩
 have hlen:(zm (val b*d)).length<=b.length+1:=jL (by
  rw[XU]
  exact Qa (q9 b) h2)
 refine zb.t (zxc _ r oM oM) ?_;rw[zo];refine⟨λh3=>?_,λh3=>?_⟩
 ·have h3:=ztq.1 h3
  have hd:1<=d:=by
   rcases Ks d with h|h
   ·subst h;omega
   exact h
  have hq':val r/val b<=d-1:=by
   have:val r/val b<d:=by rw[XS hbp,Kt];exact h3
   omega
  refine Ar.o<|zb.t (znW _ b oM oM) ?_;rw[zo];refine⟨d-1,⟨hq',oM⟩,jh [] ⟨Xg (λn=>some (u64 n)) oM,Xg (λn=>some (SV.sl dgE (zm n))) (show val b*d-val b=val b*(d-1) by rw[Nat.mul_sub,Je]),rfl,rfl,trivial⟩ trivial,by dsimp only;omega⟩
 have h3:val b*d<=val r:=QX λh=>h3 (ztq.2 h)
 have hd:d=val r/val b:=by
  have:d<=val r/val b:=by rw[Jp hbp,Kt];exact h3
  omega
 refine zb.fresh _ _ (zxd r _ oM oM) rfl (qP _) (.inr (qF _))<|⟨some 0,zjS (.cons (zbb (by rw[hd])) (.cons (.own _ rfl) .nil)),?_,λ_ _=>rfl⟩
 have e:val r-val (zm (val b*d))=val r%val b:=by
  rw[zo,hd];have:=X7 (val r) (val b);omega
 rw[←e];rfl
end Go.Gs
