/- A function that is handed blocks, and leaves blocks, za many za it will. -/
import GoSem.Claim
import Derived.Test.YtlckjbeknkkllaaGreatDoorMAH
import Derived.Lib.Mul64
set_option maxRecDepth 100000
set_option maxHeartbeats 8000000
set_option linter.all false
namespace Go.Gs
open Proofs.Tryz
section
def endG(Γ:LS)(rs:List ResultVar)(r:SV)(M':LT)(e:Ex)(σ:St):Prop:=
 match e with
 |.exit _=>False
 |_=>∃σ',Sub σ σ'/\σ'.M=M'/\zal σ' Γ rs λs=>LE s r
variable{P:Program}{Γ:LS}{f:FuncId}{fn:Func}{c:Code}{r:SV}
def u6(hT:TOK P Γ)(hm:P.follows .mixedOrders=true){args:LQ}{M M':LT}(hf:P.funcs[f]?=some fn)(hb:fn.body=some c)(hn:(fn.name== "runtime.NumGoroutine")=false) (hle:Nat.ble args.length fn.ntmps=true)
  (h:qS P Γ c ⟨qI 0 args,M,M.length,fn.ntmps,M.length⟩ (endG Γ fn.results.toList r M')):kK P f args M r M':=by
 refine u5 hT hm hf hb hn hle h (Q':=λe σ=>(∀id,e≠.exit id)/\σ.M=M'/\zal σ Γ fn.results.toList λs=>LE s r) (λe σ hq=>?_) (λe σ hq he=>?_) (λid σ hq=>hq.1 id rfl)
 ·cases e with
  |exit id=>exact hq.elim
  |normal=>obtain⟨σ',h1,h2,h3⟩:=hq;exact⟨σ',h1,λ_=>by simp,h2,h3⟩
  |ret=>obtain⟨σ',h1,h2,h3⟩:=hq;exact⟨σ',h1,λ_=>by simp,h2,h3⟩
 obtain⟨_,hM,hq⟩:=hq;obtain⟨s,hle,h1⟩:=jb hT hq;refine⟨s,h1,λ{E ρ a w v} hr hW hρ0 hg=>⟨ρ,?_,?_,?_⟩⟩
 ·have hs:=hr.stp;rw[hM]at hs;exact⟨hs.os,hs.tape,hs.output,hs.size,λb hb hn=>hs.block b hb λh=>hn ((hW b).1 h),λb hb=>(hs.own b hb).imp (hW b).1 id,hs.rho⟩
 ·have:=hr.mem
  rwa [hM]at this
 rw[hM]at hg;exact hle _ _ _ _ _ hg
def zAS{q:Int}(k:Nat)(hk:k<=32):uX .and .i64 q (2^k-1)=q%2^k:=by
 have hp:(2:Int)^k<=2^32:=by
  have:=XJ (show 0<2 by decide) hk
  exact_mod_cast this
 have hp0:(1:Int)<=2^k:=by
  have:=Nat.one_le_two_pow (n:=k)
  exact_mod_cast this
 have hpn:(2:Nat)^k<=2^32:=XJ dC hk;have hpn0:=Nat.one_le_two_pow (n:=k);have hc:((2^k:Nat):Int)=(2:Int)^k:=by exact_mod_cast rfl
 have e:(BitVec.ofInt 64 q&&&BitVec.ofInt 64 (2^k-1)).toNat=(q%2^k).toNat:=by
  rw[BitVec.toNat_and]
  have h1:(BitVec.ofInt 64 ((2:Int)^k-1)).toNat=2^k-1:=by
   rw[Qb];omega
  rw[h1,JB,Qb];have hd:((2:Int)^k) ∣ (2:Int)^64:=⟨2^(64-k),by rw[←Int.pow_add];congr 1;omega⟩;have h2:(q%(2:Int)^64)%2^k=q%2^k:=Int.emod_emod_of_dvd q hd;have h3:=K2 q (show(2:Int)^64≠0 by decide);have h4:=K2 q (show(2:Int)^k≠0 by omega)
  have h5:(((q%(2:Int)^64).toNat%2^k:Nat):Int)=q%2^k:=by
   rw[QZ,hc,QH h3,h2]
  show(q%((2^64:Nat):Int)).toNat%2^k=_;have h6:((2^64:Nat):Int)=(2:Int)^64:=dC;rw[h6];omega
 show IntKind.i64.wrap ((BitVec.ofInt 64 q&&&BitVec.ofInt 64 (2^k-1)).toNat:Nat)=_;rw[e];have h4:=K2 q (show(2:Int)^k≠0 by omega);have h5:=KY q (show(0:Int)<2^k by omega);rw[QH h4];generalize q%2^k=z at*;simp only[IntKind.wrap,IntKind.bits,IntKind.signed];simp;omega
variable{σ:St}
def znb(k0:Nat){m m':Mem}(h0:zH σ.M k0=some m)(hm:∀(S Pm:LG) (ρ:ze) (w:World),je S Pm ρ w k0 m->je S Pm ρ w k0 m'):
  Sub σ ⟨σ.L,kO σ.M k0 m',σ.nk,σ.nt,σ.n0⟩:=by
 intro E ρ a w hr;refine⟨ρ,?_⟩;have hkeys:(kO σ.M k0 m').map (·.1)=σ.M.map (·.1):=u0;have hown:∀b,Own (kO σ.M k0 m') ρ b->Own σ.M ρ b:=λb hb=>uF hkeys.symm hb
 have hown':∀b,Own σ.M ρ b->Own (kO σ.M k0 m') ρ b:=λb hb=>uF hkeys hb
 have eo:Own (kO σ.M k0 m') ρ=Own σ.M ρ:=funext λb=>propext ⟨hown b,hown' b⟩
 refine⟨hr.size,hr.defers,λt s hl=>?_,⟨λk1 m1 h1=>?_,jC hkeys hr.mem.keys,λk1 m1 k2 m2 v1 v2 b h1 h2=>?_,λb hb=>hr.mem.old b (hown b hb),hr.mem.kp,hr.mem.glO hown⟩,
  hr.fresh,?_,hr.keep,hr.low⟩
 ·show t<σ.nt/\G (λb=>E.Keep b∨Own (kO σ.M k0 m') ρ b) (Own (kO σ.M k0 m') ρ) ρ w s (a.tmps.getD t undef);rw[eo];exact hr.regs t s hl
 ·show je (λb=>E.Keep b∨Own (kO σ.M k0 m') ρ b) (Own (kO σ.M k0 m') ρ) ρ w k1 m1;rw[eo]
  obtain⟨_,h2⟩|h2:=qJ hr.mem.keys _ h1
  ·exact hr.mem.rel k1 m1 h2
  cases h2
  exact hm _ _ _ _ (hr.mem.rel k0 m (zn h0))
 ·have back:∀k1 m1,(k1,m1)∈kO σ.M k0 m'->∃m',(k1,m')∈σ.M:=λk1 m1 h=>by
   obtain⟨_,h2⟩|h2:=qJ hr.mem.keys _ h
   ·exact⟨m1,h2⟩
   cases h2;exact⟨_,zn h0⟩
  obtain⟨m1',h1'⟩:=back _ _ h1;obtain⟨m2',h2'⟩:=back _ _ h2;exact hr.mem.apart k1 m1' k2 m2' v1 v2 b h1' h2'
 show Stp E.W0 (Own (kO σ.M k0 m') ρ) E.ρ0 ρ E.w0 w;rw[eo];exact hr.stp
def LEs.ixs{za bs:LQ}(h:LEs za bs):za.length=bs.length/\∀(j:Nat) (r:SV),bs[j]?=some r->∃s,za[j]?=some s/\LE s r:=by
 induction h with
 |nil=>exact⟨rfl,λj r h=>by simp at h⟩
 |cons h t ih=>
  refine⟨by simp[ih.1],λj r hr=>?_⟩
  cases j with
  |zero=>simp at hr;subst hr;exact⟨_,rfl,h⟩
  |succ j=>simpa using ih.2 j r (by simpa using hr)
inductive Rows:LM->LM->Prop
 |nil:Rows [] []
 |cons {x y:LQ} {xs ys:LM} (h:LEs x y) (t:Rows xs ys):Rows (x::xs) (y::ys)
def Rows.refl:∀{xs:LM},Rows xs xs
 |[]=>.nil
 |_::_=>.cons .refl .refl
variable{us:LM}
def Rows.C{a:LQ}{bs:LM}(t:Rows us bs):Rows (a::us) (a::bs):=.cons .refl t
variable{ys:LM}
def Rows.app{xs vs:LM}(h:Rows xs ys)(k:Rows us vs):Rows (xs++us) (ys++vs):=by
 induction h with
 |nil=>exact k
 |cons h t ih=>exact .cons h ih
def Rows.ix{xs:LM}(h:Rows xs ys):xs.length=ys.length/\∀(i:Nat) y,ys[i]?=some y->∃x,xs[i]?=some x/\LEs x y:=by
 induction h with
 |nil=>exact⟨rfl,λi y h=>by simp at h⟩
 |cons h t ih=>
  refine⟨by simp[ih.1],λi y hy=>?_⟩
  cases i with
  |zero=>simp at hy;subst hy;exact⟨_,rfl,h⟩
  |succ i=>simpa using ih.2 i y (by simpa using hy)
def zbZ(k0:Nat){T:TypeId}{sz:Nat}{xs:LM}(h0:zH σ.M k0=some (.garr T sz xs))(h:Rows xs ys):Sub σ ⟨σ.L,kO σ.M k0 (.garr T sz ys),σ.nk,σ.nt,σ.n0⟩:=by
 refine znb k0 h0 λS Pm ρ w ⟨v,cells,g1,g2,g3,g4,g5,g6⟩=>⟨v,cells,g1,by rw[←h.ix.1];exact g2,by rw[←h.ix.1];exact g3,g4,λy hy=>?_,λi j y s hy hs=>?_⟩
 ·obtain⟨i,hi⟩:=Ju.1 hy;obtain⟨x,hx,hle⟩:=h.ix.2 i y hi;rw[←hle.ixs.1];exact g5 x (Xf hx)
 obtain⟨x,hx,hle⟩:=h.ix.2 i y hy;obtain⟨s',hs',hl⟩:=hle.ixs.2 j s hs;obtain⟨u,hu,hg⟩:=g6 i j x s' hx hs';exact⟨u,hu,hl _ _ _ _ _ hg⟩
def law_walk'{args:LQ}{vs:LZ}{w:World}(h:kK P f args [] (bl true) [])(hg:∀S Pm:LG,(∀b,¬S b)->(∀b,¬Pm b)->Gs S Pm (λ_=>none) w args vs)(hgl:∀g v,GL g v->w.cell? ⟨g,0,none⟩=some v:=by intro _ _ h;cases h):
  Calls P f vs.toArray w λe w'=>e=.returned (.bool true)/\RowKit.Grown w w'/\RowKit.Below w.heap.size w w':=by
 refine(h.2 (λ_=>False) (λ_=>none) w vs (λ_ h=>h.elim) (kS (λ_ h=>h.elim) hgl) (λ_ _=>rfl) (hg _ _ (λb hb=>hb.elim id zF) (λb=>zF))).mono ?_
 rintro e w' ⟨v,ρ',rfl,hs,_,hv⟩
 refine⟨by rw[hv.val_inv],⟨⟨hs.os,hs.output.1,λi hi=>?_⟩,hs.output.2,hs.size⟩,⟨hs.os,hs.tape,hs.output.1,hs.size,λi hi=>hs.block i hi zF⟩⟩;rw[hs.block i hi zF]
 cases w.heap[i]? with
 |none=>rfl
 |some o=>cases o <;> simp
def r64{n:Int}(h:(Lit.int .i64 n).wf=true):R64 n:=by
 simp only[Lit.wf,XC,decide_eq_true_eq]at h;exact h
def zxf(P:Program)(Γ:LS):Nat->Code->(St->Prop)->St->LF->Prop
 |0,_,J,σ,_=>J σ
 |n+1,.seq x y,J,σ,Q=>qS P Γ x σ λe σ=>(match e with
  |.normal=>zxf P Γ n y J σ Q
  |.exit id=>Q (.exit id) σ
  |.ret=>Q .ret σ)
 |_+1,_,_,_,_=>False
def zxg:Nat->Code->Code
 |0,c=>c
 |n+1,.seq _ y=>zxg n y
 |_+1,c=>c
def zaS(P:Program)(c:Code)(σ:St)(Q:LF):Prop:=∀(E:Env) (ρ:ze) (a:Act) (w:World),Rel E σ ρ a w->c.wp P (uc E Q) a w
variable{Q:LF}
def zaS.vc(hT:TOK P Γ)(hm:P.follows .mixedOrders=true)(h:qS P Γ c σ Q):zaS P c σ Q:=
 λ_ _ _ _ hr=>ky hT hm c hr h
def zlu{P:Program}{Γ:LS}(hT:TOK P Γ)(hm:P.follows .mixedOrders=true){J:St->Prop}{Q:LF}:∀(n:Nat) (c:Code) {σ:St},
  zxf P Γ n c J σ Q->(∀σ,J σ->zaS P (zxg n c) σ Q)->zaS P c σ Q
 |0,_,_,h,hJ=>hJ _ h
 |n+1,.seq x y,σ,h,hJ=>λE ρ a w hr=>by
  refine wp_seq (Code.wp_mono (λe a' w' hq=>?_) (ky hT hm x hr h))
  cases e with
  |normal=>obtain⟨σ',ρ',h',hr'⟩:=hq;exact zlu hT hm n y h' hJ E ρ' a' w' hr'
  |exit id=>exact hq
  |ret=>exact hq
  |_=>exact hq.elim
 |_+1,.skip,_,h,_=>h.elim
 |_+1,.region ..,_,h,_=>h.elim
 |_+1,.cond ..,_,h,_=>h.elim
 |_+1,.block ..,_,h,_=>h.elim
 |_+1,.loop ..,_,h,_=>h.elim
 |_+1,.rangeFunc ..,_,h,_=>h.elim
 |_+1,.exit ..,_,h,_=>h.elim
 |_+1,.scope ..,_,h,_=>h.elim
 |_+1,.label ..,_,h,_=>h.elim
 |_+1,.goto ..,_,h,_=>h.elim
 |_+1,.ret,_,h,_=>h.elim
 |_+1,.refuse ..,_,h,_=>h.elim
def zaS.cut(hT:TOK P Γ)(hm:P.follows .mixedOrders=true)(n:Nat){ι:Type}(S:ι->St)(I:ι->Prop)(h:zxf P Γ n c (λσ=>∃i,I i/\Sub σ (S i)) σ Q)(h2:∀i,I i->zaS P (zxg n c) (S i) Q):zaS P c σ Q:=
 zlu hT hm n c h λ_ ⟨i,hi,hs⟩ E ρ a w hr=>by
  obtain⟨ρ',hr'⟩:=hs E ρ a w hr;exact h2 i hi E ρ' a w hr'
def zau(hT:TOK P Γ){args:LQ}(hf:P.funcs[f]?=some fn)(hb:fn.body=some c)(hn:(fn.name== "runtime.NumGoroutine")=false) (hle:Nat.ble args.length fn.ntmps=true)
  (h:zaS P c ⟨qI 0 args,[],0,fn.ntmps,0⟩ (endV Γ fn.results.toList r)):kK P f args [] r []:=by
 refine⟨⟨fn,hf,hn,by rw[hb];rfl⟩,λKeep ρ w vs _ hmem hρ hg=>calls_of_wp hf hb ?_⟩;have hrel:=uw (nt:=fn.ntmps) hmem hρ hg (Xx hle);refine Code.wp_mono (λe a' w' hq=>?_) (h _ _ _ _ hrel)
 have fin:∀σ ρ1,zal σ Γ fn.results.toList (λs=>LE (zlc (zH σ.M) s) r)->Rel ⟨w,ρ,Keep,Own [] ρ,[]⟩ σ ρ1 a' w'->a'.defers=[]/\∃v,(results fn a'.tmps).run P w'=.ok v w'/\∃v' ρ',Ending.returned v=.returned v'/\Stp (Own [] ρ) (Own [] ρ') ρ ρ' w w'/\
   zB Keep [] ρ' w'/\G (λb=>Keep b∨Own [] ρ' b) (Own [] ρ') ρ' w' r v':=by
  intro σ ρ1 hq hr;obtain⟨s,hle,h1⟩:=jb hT hq;obtain⟨v,g1,hg⟩:=h1 hr;have hs:=hr.stp;refine⟨hr.defers,v,g1,v,ρ1,rfl,⟨hs.os,hs.tape,hs.output,hs.size,hs.block,λb hb=>absurd hb zF,hs.rho⟩,kS hr.mem.kp λ_ _ h=>hr.mem.glc h,?_⟩;exact hle _ _ _ _ _ (zm6 (λk m h=>zn h) hr.mem (λb hb=>.inl (hb.resolve_right zF)) hg (λb hb hk=>(hr.mem.old b hb).2 (hk.resolve_right zF)) (λ_=>zF))
 cases e with
 |normal=>obtain⟨σ,ρ1,hq,hr⟩:=hq;exact fin σ ρ1 hq hr
 |ret=>obtain⟨σ,ρ1,hq,hr⟩:=hq;exact fin σ ρ1 hq hr
 |exit id=>obtain⟨σ,ρ1,hq,hr⟩:=hq;exact hq.elim
 |_=>exact hq.elim
abbrev Dig:=Fin 4294967296
def val:List Dig->Nat
 |[]=>0
 |d::r=>d.val+4294967296*val r
def zj(n:Nat):List Dig:=
 if h:n=0 then[] else⟨n%4294967296,Kr _ dC⟩::zj (n/4294967296)
termination_by n
decreasing_by exact Ym (Kl h) dC
def dig(xs:List Dig)(i:Nat):Nat:=match xs[i]? with
 |some d=>d.val
 |none=>0
def zcX(i:Nat):0<4294967296^i:=Qc dC
def yb(xs:List Dig)(i:Nat):dig xs i<4294967296:=by
 unfold dig;split
 ·exact Fin.isLt _
 decide
variable{xs:List Dig}{i:Nat}
def zR{d:Dig}(h:xs[i]?=some d):dig xs i=d.val:=by simp[dig,h]
def v6(h:xs.length<=i):dig xs i=0:=by simp[dig,h]
def zep(d:Dig)(r:List Dig):dig (d::r) 0=d.val:=rfl
def vt(d:Dig)(r:List Dig)(i:Nat):dig (d::r) (i+1)=dig r i:=by simp[dig]
def zxj(xs:List Dig)(k i:Nat):dig (xs.take k) i=if i<k then dig xs i else 0:=by
 by_cases h:i<k <;> simp[dig,XK,h]
def jk(xs:List Dig)(i j:Nat)(d:Dig):dig (xs.set i d) j=if i=j/\i<xs.length then d.val else dig xs j:=by
 simp only[dig,Kw]
 by_cases h:i=j
 ·subst h
  by_cases h2:i<xs.length
  ·simp[h2]
  simp[h2];
 simp[h]
def zrs(xs ys:List Dig)(i:Nat):dig (xs++ys) i=if i<xs.length then dig xs i else dig ys (i-xs.length):=by
 by_cases h:i<xs.length <;> simp[dig,Kt,h]
def jZ(n i:Nat):dig (List.replicate n (0:Dig)) i=0:=by
 simp only[dig,List.getElem?_replicate];by_cases h:i<n <;> simp[h]
def znd:val []=0:=rfl
def uK(d:Dig)(r:List Dig):val (d::r)=d.val+4294967296*val r:=rfl
def u7:∀xs ys:List Dig,val (xs++ys)=val xs+4294967296^xs.length*val ys
 |[],ys=>by simp[val]
 |x::xs,ys=>by
  simp only[JA,val,u7 xs ys,Xq,X0]
  grind
def qG:∀xs:List Dig,val xs<4294967296^xs.length
 |[]=>by simp[val]
 |x::xs=>by
  have h:=qG xs;have:=x.isLt;simp only[val,Xq,X0];omega
def kw(xs:List Dig)(i:Nat):val xs=val (xs.take i)+4294967296^i*val (xs.drop i):=by
 by_cases h:i<=xs.length
 ·have:=u7 (xs.take i) (xs.drop i);rw[KG,Xv,Qj h]at this;exact this
 rw[Xk oM,KB oM];simp[val]
def ja(xs:List Dig)(i:Nat):val (xs.take i)<4294967296^i:=by
 have h:=qG (xs.take i);have:(xs.take i).length<=i:=by simp;omega
 exact Xy h (XJ dC this)
def zu(xs:List Dig)(i:Nat):val (xs.drop i)=dig xs i+4294967296*val (xs.drop (i+1)):=by
 by_cases h:i<xs.length
 ·rw[K5 h,uK,zR (Xa h)]
 rw[KB oM,KB oM,v6 oM];rfl
def zP(xs:List Dig)(i:Nat):val (xs.take (i+1))=val (xs.take i)+4294967296^i*dig xs i:=by
 have h1:=kw xs i;have h2:=kw xs (i+1);have h3:=zu xs i;rw[X0]at h2;rw[h3]at h1;generalize 4294967296^i=q at*;generalize val (xs.take (i+1))=a at*;generalize val (xs.take i)=b at*;generalize val (xs.drop (i+1))=c at*;have:q*(dig xs i+4294967296*c)=q*dig xs i+q*4294967296*c:=by rw[KN,KR]
 omega
def kJ(h:xs.length<=i):val (xs.take i)=val xs:=by rw[Xk h]
def zX(h:xs.length<=i):val (xs.drop i)=0:=by rw[KB h];rfl
def vu:∀(xs:List Dig) (i:Nat) (d:Dig),i<xs.length->val (xs.set i d)+4294967296^i*dig xs i=val xs+4294967296^i*d.val
 |[],i,d,h=>by simp at h
 |x::xs,0,d,_=>by simp only[List.set_cons_zero,val,zep];omega
 |x::xs,i+1,d,h=>by
  have ih:=vu xs i d (by simpa using h);simp only[J0,val,vt,X0]
  grind
def uL(xs:List Dig)(d:Dig):val (xs++[d])=val xs+4294967296^xs.length*d.val:=by
 rw[u7];simp[val]
def zac(n:Nat):val (List.replicate n (0:Dig))=0:=by
 induction n with
 |zero=>rfl
 |succ n ih=>rw[List.replicate_succ,uK,ih];rfl
def jr:zj 0=[]:=by unfold zj;rfl
def zfB{n:Nat}(h:n≠0):zj n=⟨n%4294967296,Kr _ dC⟩::zj (n/4294967296):=by
 rw[zj];simp[h]
def zk(n:Nat):val (zj n)=n:=by
 induction n using Nat.strongRecOn with
 |_ n ih=>
  by_cases h:n=0
  ·subst h;rw[jr];rfl
  rw[zfB h,uK,ih _ (Ym (Kl h) dC)];show n%4294967296+_=n;omega
def zoT(xs:List Dig):Prop:=xs=[]∨dig xs (xs.length-1)≠0
def zeq:∀{xs:List Dig},zoT xs->xs≠[]->val xs≠0
 |[],_,h=>absurd rfl h
 |[x],h,_=>by
  rcases h with h|h
  ·cases h
  have:dig [x] ([x].length-1)=x.val:=rfl;simp only[val];omega
 |x::y::r,h,_=>by
  have h':zoT (y::r):=by
   rcases h with h|h
   ·cases h
   right
   simp only[Xq,Qy]at h ⊢;rw[vt]at h;exact h
  have:=zeq h' sI;rw[uK];omega
def zoU:∀{xs:List Dig},zoT xs->zj (val xs)=xs
 |[],_=>jr
 |x::r,h=>by
  have hp:=zeq h sI
  have h':zoT r:=by
   rcases h with h|h
   ·cases h
   cases r with
   |nil=>exact .inl rfl
   |cons y r=>
    right
    simp only[Xq,Qy]at h ⊢;rw[vt]at h;exact h
  have hx:=x.isLt;rw[zfB hp];have e1:val (x::r)%4294967296=x.val:=by rw[uK];omega
  have e2:val (x::r)/4294967296=val r:=by rw[uK];omega
  rw[e2,zoU h'];congr 1;exact Fin.ext e1
def u9(n:Nat):zoT (zj n):=by
 induction n using Nat.strongRecOn with
 |_ n ih=>
  by_cases h:n=0
  ·subst h;rw[jr];exact .inl rfl
  have ih:=ih _ (Ym (Kl h) (show 1<4294967296 by decide))
  right
  rw[zfB h]
  rcases ih with ih|ih
  ·have e:=zk (n/4294967296);rw[ih]at e ⊢;simp only[val]at e;show n%4294967296≠0;omega
  by_cases he:zj (n/4294967296)=[]
  ·rw[he]at ih;exact absurd (by rfl) ih
  obtain⟨y,r,he⟩:=List.exists_cons_of_ne_nil he;rw[he]at ih ⊢;simp only[Xq,Qy]at ih ⊢;rw[vt];exact ih
def zi8{n:Nat}(h:n=0∨dig xs (n-1)≠0)(hn:n<=xs.length)(hz:∀i,n<=i->dig xs i=0):xs.take n=zj (val xs):=by
 have e:val xs=val (xs.take n):=by
  rw[kw xs n]
  have:val (xs.drop n)=0:=by
   have key:∀k,val (xs.drop (n+k))=0∨k<=xs.length:=λk=>by
    by_cases hk:k<=xs.length
    ·exact .inr hk
    exact .inl (zX oM)
   have down:∀j,val (xs.drop (n+(xs.length-j)))=0:=by
    intro j
    induction j with
    |zero=>exact zX oM
    |succ j ih=>
     by_cases hj:j<xs.length
     ·rw[zu,hz _ oM,show n+(xs.length-(j+1))+1=n+(xs.length-j) by omega,ih]
     rw[show n+(xs.length-(j+1))=n+(xs.length-j) by omega];exact ih
   have:=down xs.length
   simpa using this
  rw[this];simp
 rw[e,zoU]
 by_cases hn0:n=0
 ·subst hn0;exact .inl rfl
 right
 rw[Xv,Qj hn,zxj,Xe oM];exact h.resolve_left hn0
def jI{n k:Nat}(h:n<4294967296^k):(zj n).length<=k:=by
 induction k generalizing n with
 |zero=>
   have:n=0:=by simpa using h
   subst this;rw[jr];simp
 |succ k ih=>
  by_cases h0:n=0
  ·subst h0;rw[jr];simp
  rw[zfB h0,Xq]
  have:n/4294967296<4294967296^k:=by
   rw[XZ dC];rwa [X0]at h
  have:=ih this;omega
def zb0{n k:Nat}(h:(zj n).length<=k):n<4294967296^k:=by
 have:=qG (zj n);rw[zk]at this;exact Xy this (XJ dC h)
def zD(xs:List Dig):(zj (val xs)).length<=xs.length:=jI (qG xs)
def jT{n:Nat}:zj n=[]↔n=0:=by
 constructor
 ·intro h;have:=zk n;rw[h]at this;exact this.symm
 rintro rfl;exact jr
def qY{n:Nat}:0<(zj n).length↔n≠0:=by
 rw[JN,Ne,jT]
def zne{n:Nat}(h:n≠0):4294967296^((zj n).length-1)<=n:=by
 rcases X7 n (4294967296^((zj n).length-1)) with h1|h1
 ·have:=jI h1;have:=qY.2 h;omega
 exact h1
def kZ{m n:Nat}(h:m<=n):(zj m).length<=(zj n).length:=jI (Qo h (zb0 (Xi _)))
def zcY{xs ys:List Dig}{k:Nat}(h:∀i,k<=i->dig xs i=dig ys i):val (xs.drop k)=val (ys.drop k):=by
 have down:∀j,∀k',k<=k'->max xs.length ys.length<=k'+j->val (xs.drop k')=val (ys.drop k'):=by
  intro j
  induction j with
  |zero=>intro k' _ hk;rw[zX oM,zX oM]
  |succ j ih=>
   intro k' hk hj;rw[zu,zu ys,h k' hk,ih (k'+1) oM oM]
 exact down (max xs.length ys.length) k (Xi _) oM
def zlv{ys:List Dig}(h:∀i,dig xs i=dig ys i):val xs=val ys:=by
 have:=zcY (k:=0) (xs:=xs) (ys:=ys) (λi _=>h i)
 simpa using this
def zAT(xs:List Dig)(i:Nat):dig xs i=val xs/4294967296^i%4294967296:=by
 have h1:=kw xs i;have h2:=ja xs i;have h3:=zu xs i;have h4:=yb xs i
 have e:val xs/4294967296^i=val (xs.drop i):=by
  rw[h1,Q0,QD (zcX i),KK h2,XU]
 rw[e,h3];omega
def zi9(xs:List Dig)(i:Nat):val (xs.drop i)=val xs/4294967296^i:=by
 have h1:=kw xs i;have h2:=ja xs i;rw[h1,Q0,QD (zcX i),KK h2,XU]
def zoV(xs:List Dig)(i:Nat):val (xs.take i)=val xs%4294967296^i:=by
 have h1:=kw xs i;have h2:=ja xs i;rw[h1,J5,Xw h2]
def dof(n:Nat):Dig:=⟨n%4294967296,Kr _ dC⟩
def z3(n:Nat):(dof n).val=n%4294967296:=rfl
def z1(n:Nat):Nat:=if n=0 then 0 else n.log2+1
def zcZ(n:Nat):n<2^z1 n:=by
 unfold z1;split
 ·subst_vars;decide
 exact Nat.lt_log2_self
def zaw{n:Nat}(h:n≠0):2^(z1 n-1)<=n:=by
 unfold z1;rw[Xb h];exact Nat.log2_self_le h
def zfC{n k:Nat}(h1:n<2^k)(h2:n≠0)(h3:2^(k-1)<=n):z1 n=k:=by
 have a:=zcZ n;have b:=zaw h2;have c:2^(z1 n-1)<2^k:=Qo b h1;have d:2^(k-1)<2^z1 n:=Qo h3 a;have c:=(QG (by decide:1<2)).1 c;have d:=(QG (by decide:1<2)).1 d;have:0<z1 n:=by unfold z1;rw[Xb h2];omega
 have:k≠0:=by rintro rfl;simp at h1;exact h2 h1
 omega
def zrt:z1 0=0:=rfl
def zbq{n:Nat}:0<z1 n↔n≠0:=by
 unfold z1;split <;> omega
def zax(k:Nat):4294967296^k=2^(32*k):=by rw[show 4294967296=2^32 by decide,←Nat.pow_mul]
def zuY{n:Nat}(h:2<=n):n.log2=(n/2).log2+1:=by rw[Nat.log2_def,Xe h]
def zru{n:Nat}(h:n≠0):z1 n=z1 (n/2)+1:=by
 unfold z1;rw[Xb h]
 by_cases h1:n/2=0
 ·rw[Xe h1];have:n=1:=oM;subst this;rfl
 rw[Xb h1,zuY oM]
def zbr(hn:dig xs (xs.length-1)≠0):z1 (val xs)=32*(xs.length-1)+z1 (dig xs (xs.length-1)):=by
 have hl:0<xs.length:=by
  rcases Kx xs.length with h|h
  ·rw[XN.1 h]at hn;exact absurd rfl hn
  exact h
 have e1:=kw xs (xs.length-1);have e2:=ja xs (xs.length-1);have e3:=zu xs (xs.length-1);rw[show xs.length-1+1=xs.length by omega,zX (Xi _),Ks,XU]at e3;rw[e3]at e1;generalize dig xs (xs.length-1)=t at*;have p1:=zcZ t;have p2:=zaw hn;rw[zax]at e1 e2;have p0:0<2^(32*(xs.length-1)):=Qc dC;have np:0<z1 t:=zbq.2 hn;refine zfC ?_ ?_ ?_
 ·rw[Kd];have:2^(32*(xs.length-1))*(t+1)<=2^(32*(xs.length-1))*2^z1 t:=Kh _ p1;rw[KN,Jj]at this;omega
 ·have:2^(32*(xs.length-1))*1<=2^(32*(xs.length-1))*t:=Kh _ oM;omega
 rw[show 32*(xs.length-1)+z1 t-1=32*(xs.length-1)+(z1 t-1) by omega,Kd];have:2^(32*(xs.length-1))*2^(z1 t-1)<=2^(32*(xs.length-1))*t:=Kh _ p2;omega
def zc0{xs:List Dig}{N:Nat}(h:∀j,j<xs.length->dig xs j=N/4294967296^j%4294967296):val xs=N%4294967296^xs.length:=by
 have key:∀i,i<=xs.length->val (xs.take i)=N%4294967296^i:=by
  intro i
  induction i with
  |zero=>intro _;rw[Jp,Nat.mod_one];rfl
  |succ i ih=>
   intro hi;rw[zP,ih oM,h i oM,X0,Nat.mod_mul]
 have:=key xs.length (Xi _)
 rwa [Kf]at this
def zs4(xs:List Dig)(w s j:Nat)(hs:s<32):val xs/2^(32*w+s)/4294967296^j%4294967296=(dig xs (w+j+1)*4294967296+dig xs (w+j))/2^s%4294967296:=by
 have e:val xs/2^(32*w+s)/4294967296^j=val (xs.drop (w+j))/2^s:=by
  rw[zi9,Yk,Yk];congr 1;rw[zax,zax,←Kd,←Kd];congr 1;omega
 rw[e,zu,zu];generalize val (xs.drop (w+j+1+1))=R;generalize dig xs (w+j+1)=x;generalize dig xs (w+j)=y;have hp:2^s*2^(32-s)=4294967296:=by rw[←Kd,show s+(32-s)=32 by omega]
 have:y+4294967296*(x+4294967296*R)=(x*4294967296+y)+2^s*(2^(32-s)*4294967296*R):=by
  rw[show 2^s*(2^(32-s)*4294967296*R)=(2^s*2^(32-s))*4294967296*R by simp only[KR],hp];omega
 rw[this,Nat.add_mul_div_left _ _ (Qc dC)];rw[show 2^(32-s)*4294967296*R=4294967296*(2^(32-s)*R) by rw[Ky (2^(32-s)),KR],J5]
end
open Go.Proofs
def dgE(d:Dig):LQ:=[.val (.int .u32 (d.val:Int))]
abbrev u32(n:Int):SV:=.val (.int .u32 n)
abbrev u64(n:Int):SV:=.val (.int .u64 n)
abbrev kY(xs:List Dig):Mem:=.arr 166 dgE 1 xs
def qw(xs:List Dig):zfg (kY xs):=λ_ _=>rfl
def qc(xs:List Dig):zh5 (kY xs):=λ_ _=>rfl
def zja(e:Int):IntKind.u32.wrap e=e%4294967296:=rfl
def jP(e:Int):IntKind.u64.wrap e=e%18446744073709551616:=rfl
def zgK(d:Dig):[d].length=1/\1<=281474976710656/\1*1<=16777216/\0<1/\∀x∈[d],(dgE x).length=1/\jn (dgE x)=true/\jw.flats (dgE x)=true:=
 ⟨rfl,dC,dC,dC,λ_ _=>⟨rfl,rfl,rfl⟩⟩
def zer:([]:List Dig).length=0/\0<=281474976710656/\0*1<=16777216/\0<1/\∀x∈([]:List Dig),(dgE x).length=1/\jn (dgE x)=true/\jw.flats (dgE x)=true:=
 ⟨rfl,dC,dC,dC,λ_ _=>⟨rfl,rfl,rfl⟩⟩
def zgL{xs ys:List Dig}(h:xs.length+ys.length<=2000000000):((xs.length+ys.length:Int)*(4:Nat)<=140737488355328/\xs.length+ys.length<=281474976710656/\0<1/\∀x∈ys,(dgE x).length=1):=
 ⟨oM,oM,dC,λ_ _=>rfl⟩
def zfD(a b:Nat):Int:=if a<b then-1 else if b<a then 1 else 0
def zdK{a b:Nat}:zfD a b<0↔a<b:=by
 unfold zfD;split
 ·simp_all
 split <;> simp_all
def zs5{a b:Nat}:0<zfD a b↔b<a:=by
 unfold zfD;split
 ·simp;omega
 split <;> simp_all
def qZ(a:List Dig)(ha:a.length<=1000000000):CG0 211 [.sl dgE a] [] (.own 0) [(0,kY (zj (val a)))]:=by
 refine qu tok mix func211 rfl rfl rfl λhl0=>?_;refine⟨Nat,λn=>⟨[(3,i64 n),(0,.sl dgE a)],[],0,34,0⟩,λn=>n<=a.length/\∀i,n<=i->dig a i=0,λn=>n,a.length,?_,?_,?_⟩
 ·exact⟨Xi _,λi h=>v6 h⟩
 ·exact zA []
 rintro n ⟨h1,h2⟩
 have post:∀(n:Nat),n<=a.length->(∀i,n<=i->dig a i=0)->(n=0∨dig a (n-1)≠0)->zj (val a)=a.take n:=λn h1 h2 h3=>(zi8 h3 h1 h2).symm
 refine⟨λh3=>?_,λh3=>?_⟩
 ·refine wa<|wb λx hx=>?_;refine⟨λh4=>?_,λh4=>?_⟩
  ·refine wa<|⟨n-1,⟨oM,λi hi=>?_⟩,qN [] ⟨iR oM,rfl,tV⟩ trivial,oN⟩
   by_cases e:i=n-1
   ·subst e;rw[show((n:Int)-1).toNat=n-1 by omega]at hx;rw[zR hx];omega
   exact h2 i oM
  have h5:dig a (n-1)≠0:=by
   rw[show((n:Int)-1).toNat=n-1 by omega]at hx;rw[zR hx];omega
  rw[post n h1 h2 (.inr h5)];refine⟨Dig,dgE,[],rfl,Ob.mk zer ?_⟩;refine⟨Nat,λi=>⟨[(5,i64 i),(3,i64 n),(4,.own 0),(0,.sl dgE a)],[(0,kY (a.take i))],1,34,0⟩,λi=>i<=n,λi=>n-i,0,?_,?_,?_⟩
  ·exact Xg _
  ·exact zi [0]
  rintro i hi
  have hi:i<=n:=hi;refine⟨λk1=>?_,λk1=>?_⟩
  ·refine wb λy hy=>?_;refine⟨Dig,dgE,[y],rfl,Ob.mk (zgK y) ?_⟩;refine⟨_,rfl,Ob.mk (zgL (by simp;omega)) ?_⟩;refine wa ?_
   refine⟨i+1,by show i+1<=n;omega,qa [(0,some 2)] rfl rfl rfl ⟨rfl,rfl,rfl,rfl,tV⟩
    ⟨Xj (λl=>some (kY l)) (by rw[Xm,show a[i]?=some y from hy];rfl),tV⟩,oN⟩
  have hin:i=n:=by omega
  subst hin;exact⟨some 0,.own _ rfl,rfl,λ_ _=>rfl⟩
 have h5:n=0:=by omega
 rw[post n h1 h2 (.inl h5)];refine⟨Dig,dgE,[],rfl,Ob.mk zer ?_⟩;refine⟨Nat,λi=>⟨[(5,i64 i),(3,i64 n),(4,.own 0),(0,.sl dgE a)],[(0,kY (a.take i))],1,34,0⟩,λi=>i<=n,λi=>n-i,0,?_,?_,?_⟩
 ·exact Xg _
 ·exact zi [0]
 rintro i hi
 have hi:i<=n:=hi;refine⟨λk1=>?_,λk1=>?_⟩
 ·refine wb λy hy=>?_;refine⟨Dig,dgE,[y],rfl,Ob.mk (zgK y) ?_⟩;refine⟨_,rfl,Ob.mk (zgL (by simp;omega)) ?_⟩;refine wa ?_
  refine⟨i+1,by show i+1<=n;omega,qa [(0,some 2)] rfl rfl rfl ⟨rfl,rfl,rfl,rfl,tV⟩
   ⟨Xj (λl=>some (kY l)) (by rw[Xm,show a[i]?=some y from hy];rfl),tV⟩,oN⟩
 have hin:i=n:=by omega
 subst hin;exact⟨some 0,.own _ rfl,rfl,λ_ _=>rfl⟩
def jU(a:List Dig)(i:Int)(hi:0<=i):CX 344 [.sl dgE a,i64 i] (u64 (dig a i.toNat)):=by
 refine zd func344<|Br.mk (λh=>?_) (λh=>?_)
 ·omega
 intro hl;refine⟨λh2=>?_,λh2=>?_⟩
 ·exact zh (by rw[v6 oM];rfl)
 refine wb λx hx=>?_;have:=x.isLt;exact wa<|zh (by rw[zR hx])
def zay{n:Nat}{e:Int}(h:e=n):((dof n).val:Int)=IntKind.u32.wrap e:=by rw[zja,z3,h];omega
def zfE{a b:List Dig}{j:Nat}(h:∀i,j+1<=i->dig a i=dig b i)(hl:dig a j<dig b j):val a<val b:=by
 have e1:=kw a j;have e2:=kw b j;have e3:=ja a j;have e4:=zu a j;have e5:=zu b j;have e6:=zcY h;have:val (a.drop j)+1<=val (b.drop j):=oM;have:=Kh (4294967296^j) this;rw[KN]at this;omega
def zxk(a b:List Dig)(ha:a.length<=1000000000)(hb:b.length<=1000000000):
  CX 346 [.sl dgE a,.sl dgE b] (i64 (zfD (val a) (val b))):=by
 refine zd func346 λhl1 hl2=>Ar.fit (by simp only[zfk];omega)<|⟨Nat,λj=>⟨[(5,i64 ((j:Int)-1)),(0,.sl dgE a),(1,.sl dgE b)],[],0,30,0⟩,λj=>j<=1000000000/\∀i,j<=i->dig a i=dig b i,λj=>j,max a.length b.length,?_,?_,?_⟩
 ·exact⟨oM,λi hi=>by rw[v6 oM,v6 oM]⟩
 ·exact qN [] ⟨iR (by simp only[zfk];omega),rfl,rfl,tV⟩ trivial
 rintro j ⟨h1,h2⟩
 refine⟨λh3=>?_,λh3=>?_⟩
 ·have e:((j:Int)-1).toNat=j-1:=by omega
  have h2':∀i,j-1+1<=i->dig a i=dig b i:=λi hi=>h2 i oM
  refine wg (jU a _ oM)<|wg (jU b _ oM)<|⟨λh4=>?_,λh4=>?_⟩
  ·have:=zfE h2' (by rw[e]at h4;omega);exact zh (by rw[zfD,Xe this])
  refine wg (jU a _ oM)<|wg (jU b _ oM)<|⟨λh5=>?_,λh5=>?_⟩
  ·have:=zfE (λi hi=>(h2' i hi).symm) (by rw[e]at h5;omega);exact zh (by rw[zfD,Xb oM,Xe this])
  refine wa<|⟨j-1,⟨oM,λi hi=>?_⟩,qN [] ⟨iR oM,rfl,rfl,tV⟩ trivial,oN⟩
  by_cases hij:i=j-1
  ·subst hij;rw[e]at h4 h5;omega
  exact h2 i oM
 have hj:j=0:=by omega
 subst hj;have:=zlv λi=>h2 i (Xg _)
 exact zh (by rw[zfD,Xb oM,Xb oM])
def zDX(a b:List Dig)(ha:a.length<=900000000)(hb:b.length<=900000000):
  CG0 282 [.sl dgE a,.sl dgE b] [] (.own 0) [(0,kY (zj (val a+val b)))]:=by
 refine qu tok mix func282 rfl rfl rfl<|⟨Dig,dgE,[],rfl,Ob.mk zer ?_⟩
 refine⟨Nat×List Dig×Nat,λq=>⟨[(7,i64 q.1),(6,u64 q.2.2),(5,.own 0),(0,.sl dgE a),(1,.sl dgE b)],[(0,kY q.2.1)],1,42,0⟩,
  λq=>q.1<=max a.length b.length/\q.2.1.length=q.1/\q.2.2<=1/\val q.2.1+4294967296^q.1*q.2.2=val (a.take q.1)+val (b.take q.1),λq=>max a.length b.length-q.1,(0,[],0),?_,?_,?_⟩
 ·exact⟨Xg _,rfl,Xg _,rfl⟩
 ·exact zi [0]
 rintro⟨i,out,c⟩ ⟨h1,h2,h3,h4⟩
 dsimp only at h1 h2 h3 h4;intro hl1 hl2;refine⟨λh5=>?_,λh5=>?_⟩
 ·simp only[zfk]at h5;have d1:=yb a i;have d2:=yb b i;refine wg (jU a _ oM)<|wg (jU b _ oM) ?_;simp only[XX];(iterate 2 refine wa ?_);refine Ar.wrap<|⟨Dig,dgE,[dof (dig a i+dig b i+c)],Xj (λn=>[u32 n]) (zay oM),Ob.mk (zgK _) ?_⟩;refine⟨_,rfl,Ob.mk (zgL (by simp;omega)) ?_⟩;refine wb1<|wa ?_
  refine⟨(i+1,out++[dof (dig a i+dig b i+c)],(dig a i+dig b i+c)/4294967296),⟨oN,by simp[h2],oN,?_⟩,
   ku [2] ⟨rfl,Xj (λn=>some (u64 n)) oN,rfl,rfl,rfl,tV⟩ ⟨rfl,tV⟩,oN⟩
  dsimp only;rw[uL,h2,z3,zP,zP,X0];have e:=Ka (dig a i+dig b i+c) 4294967296;generalize (dig a i+dig b i+c)/4294967296=x at*;generalize (dig a i+dig b i+c)%4294967296=y at*;generalize 4294967296^i=p at*
  grind
 simp only[zfk]at h5;have hi:i=max a.length b.length:=oM;refine Ar.wrap<|⟨Dig,dgE,[dof c],Xj (λn=>[u32 n]) (zay rfl),Ob.mk (zgK _) ?_⟩;refine⟨_,rfl,Ob.mk (zgL (by simp;omega)) ?_⟩;refine zb.fresh _ _ (qZ _ (by simp;omega)) rfl (qw _) (.inr (qc _))<|⟨some 3,.own _ rfl,?_,λ_ _=>rfl⟩
 have e:val (out++[dof c])=val a+val b:=by
  rw[uL,h2,z3,Xw oM,h4,kJ oM,kJ oM]
 rw[←e];rfl
def yR(a:List Dig)(ha:a.length<=1000000000):CX 211 [.sl dgE a] (.sl dgE (zj (val a))):=
 (qZ a ha).plain rfl
def zAU(a b:List Dig)(ha:a.length<=900000000)(hb:b.length<=900000000):
  CX 282 [.sl dgE a,.sl dgE b] (.sl dgE (zj (val a+val b))):=(zDX a b ha hb).plain rfl
def zxl(a b:List Dig)(ha:a.length<=900000000)(hb:b.length<=900000000):
  CG0 283 [.sl dgE a,.sl dgE b] [] (.tup [.own 0,pr (val b<=val a)]) [(0,kY (zj (val a-val b)))]:=by
 refine qu tok mix func283 rfl rfl rfl<|wg (zxk a b oM oM)<|⟨λh=>?_,λh=>?_⟩
 ·have hlt:val a<val b:=zdK.1 h;refine⟨none,zi3 (.cons (.nil rfl) (.cons (.le _ _ (zc oM) rfl) .nil)),?_⟩;show zj (val a-val b)=[];rw[Yy oM];exact jr
 have hle:val b<=val a:=QJ λh'=>h (zdK.2 h')
 refine⟨Dig,dgE,[],rfl,Ob.mk zer ?_⟩
 refine⟨Nat×List Dig×Nat,λ⟨i,out,c⟩=>⟨[(8,i64 i),(7,u64 c),(6,.own 0),(0,.sl dgE a),(1,.sl dgE b)],[(0,kY out)],1,41,0⟩,
  λq=>q.1<=a.length/\q.2.1.length=q.1/\q.2.2<=1/\val q.2.1+val (b.take q.1)=val (a.take q.1)+4294967296^q.1*q.2.2,λq=>a.length-q.1,(0,[],0),?_,?_,?_⟩
 ·exact⟨Xg _,rfl,Xg _,rfl⟩
 ·exact zi [0]
 rintro⟨i,out,c⟩ ⟨h1,h2,h3,h4⟩
 dsimp only at h1 h2 h3 h4;intro hl1;refine⟨λh5=>?_,λh5=>?_⟩
 ·have d1:=yb a i;have d2:=yb b i;refine wg (jU a _ oM) ?_;simp only[XX];refine wa<|wg (jU b _ oM) ?_;simp only[XX];(iterate 2 refine wa ?_);refine Ar.wrap<|⟨Dig,dgE,[dof (4294967296+dig a i-dig b i-c)],Xj (λn=>[u32 n]) (zay oM),Ob.mk (zgK _) ?_⟩;refine⟨_,rfl,Ob.mk (zgL (by simp;omega)) ?_⟩;refine wb1<|Ar.fit (by simp only[Int.reducePow];omega)<|wa ?_
  refine⟨(i+1,out++[dof (4294967296+dig a i-dig b i-c)],1-(4294967296+dig a i-dig b i-c)/4294967296),⟨oN,by simp[h2],oN,?_⟩,
   ku [2] ⟨rfl,Xj (λn=>some (u64 n)) oN,rfl,rfl,rfl,tV⟩ ⟨rfl,tV⟩,oN⟩
  dsimp only;rw[uL,h2,z3,zP,zP,X0];have e:(4294967296+dig a i-dig b i-c)%4294967296+dig b i+c=dig a i+4294967296*(1-(4294967296+dig a i-dig b i-c)/4294967296):=oM;generalize 1-(4294967296+dig a i-dig b i-c)/4294967296=x at*;generalize (4294967296+dig a i-dig b i-c)%4294967296=y at*;generalize 4294967296^i=p at*
  have e2:p*y+p*dig b i+p*c=p*dig a i+p*4294967296*x:=by
   rw[←KN,←KN,e,KN,KR]
  omega
 have hi:i=a.length:=by omega
 refine zb.fresh _ _ (qZ _ oM) rfl (qw _) (.inr (qc _))<|⟨some 1,zi3 (.cons (.own _ rfl) (.cons (.le _ _ (zI hle) rfl) .nil)),?_,λ_ _=>rfl⟩
 have e:val out=val a-val b:=by
  subst hi;have e0:val (a.take a.length)=val a:=kJ (Xi _);rw[e0]at h4;have e1:=kw b a.length;have e2:=qG a
  have e3:val (b.drop a.length)=0:=by
   rcases Kx (val (b.drop a.length)) with h|h
   ·exact h
   have:=Kh (4294967296^a.length) h;omega
  have e4:=qG out;rw[h2]at e4;rw[e3]at e1;have:c=0∨c=1:=oM
  rcases this with rfl|rfl <;> omega
 rw[←e];rfl
def znf(a b:List Dig)(ha:a.length<=900000000)(hb:b.length<=900000000):
  CX 283 [.sl dgE a,.sl dgE b] (.tup [.sl dgE (zj (val a-val b)),pr (val b<=val a)]):=(zxl a b ha hb).plain rfl
def zxm{x y c:Nat}(hx:x<4294967296)(hy:y<4294967296)(hc:c<4294967296):x*y+c<=18446744069414584320:=by
 have:x*y<=4294967295*4294967295:=QK oM oM;omega
def zdL{x y:Nat}(hx:x<4294967296)(hy:y<4294967296):x*y<=18446744065119617025:=by
 have:x*y<=4294967295*4294967295:=QK oM oM;omega
def zoW{p q x y z c u v w o o0 r:Nat}(h4:o+p*q*c=o0+p*(x*w))(hs:r+p*q*z=o+p*q*v)(e:4294967296*u+v=x*y+z+c):
  r+p*q*4294967296*u=o0+p*(x*(w+q*y)):=by grind
def zxn(a:List Dig)(d:Nat)(ha:a.length<=900000000)(hd:d<4294967296):
  CG0 345 [.sl dgE a,u64 d] [] (.own 0) [(0,kY (zj (val a*d)))]:=by
 refine qu tok mix func345 rfl rfl rfl<|⟨Dig,dgE,[],rfl,Ob.mk zer ?_⟩
 refine⟨Nat×List Dig×Nat,λ⟨i,out,c⟩=>⟨[(7,i64 i),(6,u64 c),(5,.own 0),(0,.sl dgE a),(1,u64 d)],[(0,kY out)],1,39,0⟩,
  λq=>q.1<=a.length/\q.2.1.length=q.1/\q.2.2<4294967296/\val q.2.1+4294967296^q.1*q.2.2=val (a.take q.1)*d,λq=>a.length-q.1,(0,[],0),?_,?_,?_⟩
 ·exact⟨Xg _,rfl,dC,by simp[val]⟩
 ·exact zi [0]
 rintro⟨i,out,c⟩ ⟨h1,h2,h3,h4⟩
 dsimp only at h1 h2 h3 h4;intro hl1;refine⟨λh5=>?_,λh5=>?_⟩
 ·refine wb λx(hx:a[i]?=some x)=>?_;have dx:=zR hx;have hm:=zxm x.isLt hd h3;have hm0:=zdL x.isLt hd;have hxl:=x.isLt;(iterate 3 refine wa ?_);refine Ar.wrap<|⟨Dig,dgE,[dof (x.val*d+c)],Xj (λn=>[u32 n]) (zay oM),Ob.mk (zgK _) ?_⟩;refine⟨_,rfl,Ob.mk (zgL (by simp;omega)) ?_⟩;refine wb1<|wa ?_
  refine⟨(i+1,out++[dof (x.val*d+c)],(x.val*d+c)/4294967296),⟨oN,by simp[h2],oN,?_⟩,
   ku [2] ⟨rfl,Xj (λn=>some (u64 n)) oN,rfl,rfl,rfl,tV⟩ ⟨rfl,tV⟩,oN⟩
  dsimp only;rw[uL,h2,z3,zP,X0,dx];have e:=Ka (x.val*d+c) 4294967296;generalize (x.val*d+c)/4294967296=u at*;generalize (x.val*d+c)%4294967296=v at*;generalize 4294967296^i=p at*;generalize x.val=x at*;generalize val (a.take i)=w at*;clear hm hm0
  grind
 have hi:i=a.length:=by omega
 refine Ar.wrap<|⟨Dig,dgE,[dof c],Xj (λn=>[u32 n]) (zay rfl),Ob.mk (zgK _) ?_⟩;refine⟨_,rfl,Ob.mk (zgL (by simp;omega)) ?_⟩;refine zb.fresh _ _ (qZ _ (by simp;omega)) rfl (qw _) (.inr (qc _))<|⟨some 3,.own _ rfl,?_,λ_ _=>rfl⟩
 have e:val (out++[dof c])=val a*d:=by
  rw[uL,h2,z3,Xw oM,h4,kJ oM]
 rw[←e];rfl
def zuZ(a:List Dig)(d:Nat)(ha:a.length<=900000000)(hd:d<4294967296):
  CX 345 [.sl dgE a,u64 d] (.sl dgE (zj (val a*d))):=(zxn a d ha hd).plain rfl
def zDY(a b:List Dig)(ha:a.length<=400000000)(hb:b.length<=400000000):
  CG0 274 [.sl dgE a,.sl dgE b] [] (.own 0) [(0,kY (zj (val a*val b)))]:=by
 refine qu tok mix func274 rfl rfl rfl λhl1 hl2=>?_;(iterate 2 refine wa ?_);refine⟨Dig,dgE,0,rfl,wb5 ?_⟩
 refine⟨Nat×List Dig,λ⟨i,out⟩=>⟨[(6,i64 i),(5,.own 0),(0,.sl dgE a),(1,.sl dgE b)],[(0,kY out)],1,69,0⟩,
  λq=>q.1<=a.length/\q.2.length=a.length+b.length+1/\val q.2=val (a.take q.1)*val b/\∀j,q.1+b.length<=j->dig q.2 j=0,λq=>a.length-q.1,(0,List.replicate (a.length+b.length+1) 0),?_,?_,?_⟩
 ·exact⟨Xg _,sI,by simp[zac,val],λj _=>jZ _ _⟩
 ·exact zt [0] ⟨Xj (λn=>some (kY (List.replicate n 0))) oM,tV⟩
 rintro⟨i,out0⟩ ⟨h1,h2,h3,h4⟩
 dsimp only at h1 h2 h3 h4;intro hl3;refine⟨λh5=>?_,λh5=>?_⟩
 ·refine⟨Nat×List Dig×Nat,λ⟨k,out,c⟩=>⟨[(8,i64 k),(7,u64 c),(6,i64 i),(5,.own 0),(0,.sl dgE a),(1,.sl dgE b)],[(0,kY out)],1,69,0⟩,
   λq=>q.1<=b.length/\q.2.1.length=a.length+b.length+1/\q.2.2<4294967296/\val q.2.1+4294967296^(i+q.1)*q.2.2=val out0+4294967296^i*(dig a i*val (b.take q.1))/\∀j,i+b.length<=j->dig q.2.1 j=0,λq=>b.length-q.1,(0,out0,0),?_,?_,?_⟩
  ·exact⟨Xg _,h2,oN,by simp[val],h4⟩
  ·exact zi [0]
  rintro⟨k,out,c⟩ ⟨g1,g2,g3,g4,g5⟩
  dsimp only at g1 g2 g3 g4 g5;intro hl4;refine⟨λg6=>?_,λg6=>?_⟩
  ·refine wc<|wb λx(hx:a[i]?=some x)=>?_;have dx:=zR hx;have hxl:=x.isLt;refine wa<|wb λy(hy:b[k]?=some y)=>?_;have dy:=zR hy;have hyl:=y.isLt;refine wa ?_;have hm0:=zdL hxl hyl;(iterate 2 refine wa ?_);refine wb<|wb λz hz=>?_;rw[show((i:Int)+k).toNat=i+k by omega]at hz;have dz:=zR hz;have hzl:=z.isLt;(iterate 4 refine wa ?_);refine Ar.wrap<|wb<|wb λz' hz'=>?_
   refine⟨dof (x.val*y.val+z.val+c),Xj (λn=>[u32 n]) (zay oM),?_⟩;refine wb1<|wa ?_
   refine⟨(k+1,out.set (i+k) (dof (x.val*y.val+z.val+c)),(x.val*y.val+z.val+c)/4294967296),⟨oN,by simp[g2],oN,?_,?_⟩,
    ku [0] ⟨rfl,Xj (λn=>some (u64 n)) oN,rfl,rfl,rfl,rfl,tV⟩ ⟨Xj (λn=>some (kY (out.set n _))) oM,tV⟩,oN⟩
   ·dsimp only;have hs:=vu out (i+k) (dof (x.val*y.val+z.val+c)) oM;rw[z3,dz]at hs;rw[zP,dy,←KE i k 1,X0];rw[dx]at g4 ⊢;have e:=Ka (x.val*y.val+z.val+c) 4294967296;rw[Kd]at g4 hs ⊢;exact zoW g4 hs e
   intro j hj;dsimp only;rw[jk,Xb oM];exact g5 j hj
  have hk:k=b.length:=by omega
  intro hl5;refine wa<|Ar.wrap<|wb<|wb λz' hz'=>?_;refine⟨dof c,Xj (λn=>[u32 n]) (zay rfl),?_⟩;refine wa ?_
  refine⟨(i+1,out.set (i+b.length) (dof c)),⟨oN,by simp[g2],?_,?_⟩,
   zt [0] ⟨Xj (λn=>some (kY (out.set n _))) oM,tV⟩,oN⟩
  ·dsimp only;have hs:=vu out (i+b.length) (dof c) oM;rw[z3,g5 _ (Xi _),Xw g3]at hs;rw[hk,kJ (Xi _),h3]at g4;rw[zP];generalize val (out.set (i+b.length) _)=r at*;generalize 4294967296^i=p at*;generalize 4294967296^(i+b.length)=q at*;generalize val (a.take i)=w at*;generalize dig a i=x at*;generalize val out=o at*;clear h4 g5
   grind
  intro j hj;dsimp only;rw[jk,Xb oM];exact g5 j oM
 have hi:i=a.length:=by omega
 refine zb.fresh _ _ (qZ _ oM) rfl (qw _) (.inr (qc _))<|⟨some 1,.own _ rfl,?_,λ_ _=>rfl⟩;rw[hi,kJ (Xi _)]at h3;rw[←h3];rfl
def zAV(a b:List Dig)(ha:a.length<=400000000)(hb:b.length<=400000000):
  CX 274 [.sl dgE a,.sl dgE b] (.sl dgE (zj (val a*val b))):=(zDY a b ha hb).plain rfl
def zfF(a:List Dig):z1 (val a)<=32*a.length:=by
 by_cases h:val a=0
 ·rw[h,zrt];omega
 have h1:=zaw h;have h2:=qG a;rw[zax]at h2;have:=(QG (by decide:1<2)).1 (Qo h1 h2);omega
def zlw(a:List Dig)(ha:a.length<=900000000):CX 279 [.sl dgE a] (i64 (z1 (val a))):=by
 refine zd func279<|wg (yR _ oM) λhl=>?_;have hlen:=zD a;refine⟨λh=>?_,λh=>?_⟩
 ·have:zj (val a)=[]:=XN.1 oM;exact zh (by rw[jT.1 this];rfl)
 have hne:zj (val a)≠[]:=λe=>h (by rw[e];rfl)
 have hn:=(u9 (val a)).resolve_left hne;have htop:=zbr hn;rw[zk]at htop;intro hl2;(iterate 2 refine wa ?_);intro hl3;refine wa<|wb λx hx=>?_;rw[show(((zj (val a)).length:Int)-1).toNat=(zj (val a)).length-1 by omega]at hx;have dx:=zR hx;have hxl:=x.isLt;have hb:=zfF a;refine⟨Nat×Nat,λ⟨n,t⟩=>⟨[(4,i64 n),(5,u32 t)],[],0,28,0⟩,λq=>q.2<4294967296/\q.1+z1 q.2=z1 (val a),λq=>q.2,(32*((zj (val a)).length-1),x.val),?_,?_,?_⟩
 ·exact⟨hxl,by dsimp only;rw[htop,dx]⟩
 ·exact qN [] ⟨iR oM,rfl,tV⟩ trivial
 rintro⟨n,t⟩ ⟨g1,g2⟩
 dsimp only at g1 g2;refine⟨λg3=>?_,λg3=>?_⟩
 ·have hh:=zru (n:=t) oM;exact wa<|Dv.pos ⟨oM,oM,by show _<=(4294967295:Int);omega⟩<|⟨(n+1,t/2),⟨oN,oN⟩,qN [] ⟨rfl,Xj (λn=>some (u32 n)) oM,tV⟩ trivial,oN⟩
 have:t=0:=by omega
 subst this;exact zh (by rw[←g2];rfl)
def zAW{p s x c u v w o M:Nat}(h4:o+p*M*c=p*(s*w))(e:4294967296*u+v=x*s+c):
  o+p*M*v+p*(M*4294967296)*u=p*(s*(w+M*x)):=by grind
def zDa(a:List Dig)(n:Nat)(ha:a.length<=800000000)(hn:n<=4096):
  CG0 343 [.sl dgE a,i64 n] [] (.own 0) [(0,kY (zj (val a*2^n)))]:=by
 refine qu tok mix func343 rfl rfl rfl ?_;have hs0:2^(n%32)<=2^31:=XJ dC oM;have hs1:0<2^(n%32):=Qc dC;generalize hs:2^(n%32)=s at*;refine Dv.pos ⟨oM,oM,by show _<=(9223372036854775807:Int);omega⟩<|⟨Dig,dgE,0,rfl,wb5 ?_⟩
 refine⟨Nat×List Dig×Nat,λ⟨i,out,c⟩=>⟨[(7,i64 i),(6,u64 c),(5,.own 0),(0,.sl dgE a),(1,i64 n)],[(0,kY out)],1,43,0⟩,
  λq=>q.1<=a.length/\q.2.1.length=n/32+q.1/\q.2.2<s/\val q.2.1+4294967296^(n/32)*4294967296^q.1*q.2.2=4294967296^(n/32)*(s*val (a.take q.1)),λq=>a.length-q.1,(0,List.replicate (n/32) 0,0),?_,?_,?_⟩
 ·exact⟨Xg _,sI,hs1,by simp[zac,val]⟩
 ·exact zt [0] ⟨Xj (λn=>some (kY (List.replicate n 0))) oM,tV⟩
 rintro⟨i,out,c⟩ ⟨h1,h2,h3,h4⟩
 dsimp only at h1 h2 h3 h4;intro hl1;refine⟨λh5=>?_,λh5=>?_⟩
 ·refine wb λx(hx:a[i]?=some x)=>?_;have dx:=zR hx;have hxl:=x.isLt;refine wa<|Dv.pos ⟨oM,oM⟩<|wa<|wb10 ?_;have hm:x.val*s<=4294967295*2^31:=QK oM hs0
  have hm2:(x.val:Int)*2^((n:Int)%32).toNat=((x.val*s:Nat):Int):=by
   rw[←hs,show((n:Int)%32).toNat=n%32 by omega];simp
  have hm3:x.val*s+c<4294967296*s:=by
   have:x.val*s<=4294967295*s:=Xs _ oM;omega
  refine Ar.fit (by rw[hm2];omega)<|Ar.fit (by rw[hm2];omega)<|Ar.wrap<|⟨Dig,dgE,[dof (x.val*s+c)],Xj (λn=>[u32 n]) (zay (by rw[hm2];omega)),Ob.mk (zgK _) ?_⟩;refine⟨_,rfl,Ob.mk (zgL (by simp;omega)) ?_⟩;refine wb1<|wa ?_
  refine⟨(i+1,out++[dof (x.val*s+c)],(x.val*s+c)/4294967296),⟨oN,by simp[h2];omega,oN,?_⟩,
   ku [2] ⟨rfl,Xj (λn=>some (u64 n)) (by rw[hm2];dsimp only;omega),rfl,rfl,rfl,tV⟩ ⟨rfl,tV⟩,oN⟩
  dsimp only;rw[uL,h2,z3,zP,dx,X0,Kd];exact zAW h4 (Ka (x.val*s+c) 4294967296)
 have hi:i=a.length:=by omega
 refine Ar.wrap<|⟨Dig,dgE,[dof c],Xj (λn=>[u32 n]) (zay rfl),Ob.mk (zgK _) ?_⟩;refine⟨_,rfl,Ob.mk (zgL (by simp;omega)) ?_⟩;refine zb.fresh _ _ (qZ _ (by simp;omega)) rfl (qw _) (.inr (qc _))<|⟨some 3,.own _ rfl,?_,λ_ _=>rfl⟩
 have e:val (out++[dof c])=val a*2^n:=by
  rw[uL,h2,z3,Xw oM,Kd,h4,kJ oM,←hs,zax];rw[←KR,←Kd,show 32*(n/32)+n%32=n by omega,Ky]
 rw[←e];rfl
def zDZ(a:List Dig)(n:Nat)(ha:a.length<=800000000)(hn:n<=4096):
  CG0 280 [.sl dgE a,i64 n] [] (.own 0) [(0,kY (zj (val a*2^n)))]:=by
 refine qu tok mix func280 rfl rfl rfl<|Br.mk (λh=>?_) (λh=>absurd oM h);have e:zcE (n:Int) [4096]=n:=by simp only[zcE];omega
 exact zb.fresh _ _ (show CG0 _ [.sl dgE a,i64 (zcE (n:Int) [4096])] [] (.own 0) [(0,kY (zj (val a*2^n)))] by rw[e];exact zDa a n ha hn) rfl (qw _) (.inr (qc _))<|⟨some 0,.own _ rfl,rfl,λ_ _=>rfl⟩
def zD0(a:List Dig)(n:Nat)(ha:a.length<=800000000)(hn:n<=1000000000000):
  CG0 280 [.sl dgE a,i64 (-(n:Int))] [] (.own 0) [(0,kY (zj (val a/2^n)))]:=by
 refine qu tok mix func280 rfl rfl rfl<|Br.mk (λh=>?_) (λh=>?_)
 ·have hn0:n=0:=by omega
  subst hn0
  refine zb.fresh _ _ (show CG0 _ [.sl dgE a,i64 (zcE (-((0:Nat):Int)) [4096])] [] (.own 0) [(0,kY (zj (val a/2^0)))] by
   have:=zDa a 0 ha oM;rw[show zcE (-((0:Nat):Int)) [4096]=0 by decide,Jp,Nat.div_one];rw[Jp,Jj]at this
   exact this) rfl (qw _) (.inr (qc _)) ?_
  exact⟨some 0,.own _ rfl,rfl,λ_ _=>rfl⟩
 intro hl;refine wa<|Br.mk (λh2=>?_) (λh2=>?_)
 ·refine⟨Dig,dgE,[],rfl,Ob.mk zer ?_⟩;refine⟨some 0,.own _ rfl,?_,λ_ _=>rfl⟩
  have e:val a/2^n=0:=by
   refine KK (Xy (qG a) ?_);rw[zax];exact XJ dC oM
  rw[e,jr];rfl
 refine⟨Dig,dgE,[],rfl,Ob.mk zer ?_⟩;refine wa<|Dv.pos ⟨oM,oM,by show _<=(9223372036854775807:Int);omega⟩ ?_
 refine⟨Nat×List Dig,λ⟨i,out⟩=>⟨[(6,i64 ((n/32+i:Nat))),(5,.own 0),(0,.sl dgE a),(1,i64 (-(n:Int)))],[(0,kY out)],1,51,0⟩,
  λq=>q.1+n/32<=a.length/\q.2.length=q.1/\∀j,j<q.2.length->dig q.2 j=val a/2^n/4294967296^j%4294967296,λq=>a.length-q.1,(0,[]),?_,?_,?_⟩
 ·exact⟨oN,rfl,λj h=>by simp at h⟩
 ·exact ku [0] ⟨iR oM,rfl,rfl,rfl,tV⟩ ⟨rfl,tV⟩
 rintro⟨i,out⟩ ⟨g1,g2,g3⟩
 dsimp only at g1 g2 g3;intro hl1;refine⟨λh5=>?_,λh5=>?_⟩
 ·have d1:=yb a (n/32+i);have d2:=yb a (n/32+i+1);have hw:(((n/32+i:Nat):Int)+1).toNat=n/32+i+1:=oM;refine wa<|wg (jU a _ oM) ?_;rw[hw];refine wb1<|Ar.fit (by simp only[Int.reducePow];omega)<|wg (jU a _ oM) ?_;simp only[XX];refine Ar.fit (by simp only[Int.reducePow];omega)<|wa<|Dv.pos ⟨oM,oM⟩<|wa<|wb10<|Ar.wrap ?_;have es:((-(-(n:Int)))%32).toNat=n%32:=oM
  refine⟨Dig,dgE,[dof ((dig a (n/32+i+1)*4294967296+dig a (n/32+i))/2^(n%32))],Xj (λn=>[u32 n]) (zay (by rw[es];simp)),Ob.mk (zgK _) ?_⟩;refine⟨_,rfl,Ob.mk (zgL (by simp;omega)) ?_⟩;refine wa ?_
  refine⟨(i+1,out++[dof ((dig a (n/32+i+1)*4294967296+dig a (n/32+i))/2^(n%32))]),⟨oN,by simp[g2],?_⟩,
   ku [2] ⟨iR oM,rfl,rfl,rfl,tV⟩ ⟨rfl,tV⟩,oN⟩
  intro j hj;dsimp only at hj ⊢;rw[Xp,Kk]at hj;rw[zrs]
  split
  ·exact g3 j oM
  have hji:j=i:=by omega
  subst hji;have:=zs4 a (n/32) (n%32) j oM;rw[show 32*(n/32)+n%32=n by omega]at this;rw[this,g2,Q3,zep,z3]
 refine zb.fresh _ _ (qZ _ oM) rfl (qw _) (.inr (qc _))<|⟨some 1,.own _ rfl,?_,λ_ _=>rfl⟩
 have e:val out=val a/2^n:=by
  rw[zc0 g3,Xw];rw[XZ (Qc dC)];refine Xy (qG a) ?_;rw[zax,zax,←Kd];exact XJ dC oM
 rw[←e];rfl
def zs6(a:List Dig)(n:Nat)(ha:a.length<=800000000)(hn:n<=4096):
  CX 280 [.sl dgE a,i64 n] (.sl dgE (zj (val a*2^n))):=(zDZ a n ha hn).plain rfl
def zxo{r b:List Dig}(hb:dig b (b.length-1)≠0)(hlt:val r<4294967296*val b):
  val r/val b<=(dig r b.length*4294967296+dig r (b.length-1))/dig b (b.length-1):=by
 have hl:0<b.length:=by
  rcases Kx b.length with h|h
  ·rw[XN.1 h]at hb;exact absurd rfl hb
  exact h
 have e1:=kw b (b.length-1);have e3:=zu b (b.length-1);rw[show b.length-1+1=b.length by omega,zX (Xi _),Ks,XU]at e3;have r1:=kw r (b.length-1);have r2:=ja r (b.length-1);have r3:=zu r (b.length-1);have r4:=zu r b.length;rw[show b.length-1+1=b.length by omega]at r3;have hbl:=qG b;have hpow:4294967296^b.length=4294967296^(b.length-1)*4294967296:=by rw[←X0];congr 1;omega
 have r5:val (r.drop (b.length+1))=0:=by
  rw[zi9];refine KK (Nat.lt_trans hlt ?_);rw[X0,Ky];exact KV hbl dC
 rw[r5,Ks,XU]at r4;rw[r4]at r3;rw[e3]at e1;rw[r3]at r1;have hp:=zcX (b.length-1);generalize 4294967296^(b.length-1)=p at*;generalize dig b (b.length-1)=t at*;generalize dig r (b.length-1)=x at*;generalize dig r b.length=y at*;rw[Jy oM];have h6:=JR (val r) (val b);generalize val r/val b=q at*;have h7:q*(p*t)<=q*val b:=Kh _ oM
 have h8:p*(q*t)<p*(x+4294967296*y+1):=by
  have:q*(p*t)=p*(q*t):=by rw[←KR,Ky q p,KR]
  rw[KN p _ 1];omega
 have:=J6 h8;omega
def zxp{a q:Nat}{e:Int}(he:e=a)(ha:q<=a)(hb:q<4294967296):∃m:Nat,m<4294967296/\q<=m/\zcE e [4294967295]=m:=by
 rcases Jm e 4294967295 with h|h
 ·exact⟨a,oM,ha,by simp only[zcE];rw[Int.min_eq_left h,he]⟩
 exact⟨4294967295,oM,oM,by simp only[zcE];rw[Int.min_eq_right h];simp⟩
def zxq(r b:List Dig)(hr:r.length<=800000000)(hb:b.length<=800000000)(ht:dig b (b.length-1)≠0)(hlt:val r<4294967296*val b):
  CG0 281 [.sl dgE r,.sl dgE b] [] (.tup [u64 ((val r/val b:Nat):Int),.own 0]) [(0,kY (zj (val r%val b)))]:=by
 refine qu tok mix func281 rfl rfl rfl ?_
 have hl:0<b.length:=by
  rcases Kx b.length with h|h
  ·rw[XN.1 h]at ht;exact absurd rfl ht
  exact h
 have hbp:0<val b:=by
  rcases Kx (val b) with h|h
  ·rw[h]at hlt;omega
  exact h
 have hest:=zxo ht hlt;have hq:val r/val b<4294967296:=by rw[XZ hbp];exact hlt
 have d1:=yb r b.length;have d2:=yb r (b.length-1);have d3:=yb b (b.length-1);intro hl0;refine wc<|wg (jU r _ oM) ?_;rw[XX];refine wb1<|Ar.fit (by simp only[Int.reducePow];omega)<|wa<|wg (jU r _ oM) ?_;rw[show((b.length:Int)-1).toNat=b.length-1 by omega];refine Ar.fit (by simp only[Int.reducePow];omega)<|wa<|wb λx hx=>?_;rw[show((b.length:Int)-1).toNat=b.length-1 by omega]at hx;have dx:=zR hx;rw[dx]at ht hest d3;refine wa ?_
 refine Dv.pos ⟨by simp only[Int.reducePow];omega,oM,by show _<=(18446744073709551615:Int);simp only[Int.reducePow];omega⟩ ?_;obtain⟨m,hm1,hm2,em⟩:=zxp (e:=((dig r b.length:Nat)*2^32+(dig r (b.length-1):Nat):Int)/((x.val:Nat):Int)) sI hest hq;clear hest
 refine zb.to _ (show CG0 _ [.sl dgE b,u64 (zcE (((dig r b.length:Nat)*2^32+(dig r (b.length-1):Nat):Int)/((x.val:Nat):Int)) [4294967295])] [] (.sl dgE (zj (val b*m))) [] by
  rw[em];exact zuZ b m oM oM) rfl ?_
 refine⟨Nat,λd=>⟨[(8,u64 d),(9,.sl dgE (zj (val b*d))),(0,.sl dgE r),(1,.sl dgE b)],[],0,55,0⟩,λd=>val r/val b<=d/\d<4294967296,λd=>d,m,?_,?_,?_⟩
 ·exact⟨hm2,oM⟩
 ·exact qN [] ⟨Xj (λn=>some (u64 n)) em,rfl,rfl,rfl,tV⟩ trivial
 rintro d ⟨h1,h2⟩
 have hlen:(zj (val b*d)).length<=b.length+1:=jI (by
  rw[X0]
  exact Qh (qG b) h2)
 refine wg (zxk _ r oM oM) ?_;rw[zk];refine⟨λh3=>?_,λh3=>?_⟩
 ·have h3:=zs5.1 h3
  have hd:1<=d:=by
   rcases Kx d with h|h
   ·subst h;omega
   exact h
  have hq':val r/val b<=d-1:=by
   have:val r/val b<d:=by rw[XZ hbp,Ky];exact h3
   omega
  refine wa<|wg (znf _ b oM oM) ?_;rw[zk];refine⟨d-1,⟨hq',oM⟩,qN [] ⟨Xj (λn=>some (u64 n)) oM,Xj (λn=>some (SV.sl dgE (zj n))) (show val b*d-val b=val b*(d-1) by rw[Nat.mul_sub,Jj]),rfl,rfl,tV⟩ trivial,oN⟩
 have h3:val b*d<=val r:=QJ λh=>h3 (zs5.2 h)
 have hd:d=val r/val b:=by
  have:d<=val r/val b:=by rw[Jy hbp,Ky];exact h3
  omega
 refine zb.fresh _ _ (zxl r _ oM oM) rfl (qw _) (.inr (qc _))<|⟨some 0,zi3 (.cons (jH (by rw[hd])) (.cons (.own _ rfl) .nil)),?_,λ_ _=>rfl⟩
 have e:val r-val (zj (val b*d))=val r%val b:=by
  rw[zk,hd];have:=Ka (val r) (val b);omega
 rw[←e];rfl
def zoX{u q V d l w B qd rr nx:Nat}(h:w=V*qd+rr)(hn:nx=u+B*rr)(hd:V*d+l=nx)(hq:q=d+B*qd):u+B*w=V*q+l:=by
 subst h;subst hq;grind
def zbe{xs:List Dig}{i:Nat}{d:Dig}(h:i<xs.length):val ((xs.set i d).drop i)=d.val+4294967296*val (xs.drop (i+1)):=by
 rw[zu,jk,Xe ⟨rfl,h⟩,List.drop_set_of_lt oM]
def zlx(a b:List Dig)(ha:a.length<=400000000)(hb:b.length<=400000000)(hb0:val b≠0):
  CX 212 [.sl dgE a,.sl dgE b] (.tup [.sl dgE (zj (val a/val b)),.sl dgE (zj (val a%val b)),i64 0]):=by
 refine zd func212<|wg (yR _ oM) λhl=>?_;have hlen:=zD b;refine⟨λh=>?_,λh=>?_⟩
 ·have:zj (val b)=[]:=XN.1 oM;exact absurd (jT.1 this) hb0
 have hne:zj (val b)≠[]:=λe=>hb0 (jT.1 e)
 have hnorm:=(u9 (val b)).resolve_left hne;have htop:=zbr hnorm;rw[zk]at htop;have hbits:=zfF (zj (val b));rw[zk]at hbits;have hpos:=zbq.2 hb0;have hnt:0<z1 (dig (zj (val b)) ((zj (val b)).length-1)):=zbq.2 hnorm;intro hl2;refine wa<|wg (zlw _ oM) ?_;rw[zk];refine wa ?_;obtain⟨s,hs⟩:∃s:Nat,(32*((zj (val b)).length:Int)-(z1 (val b):Int))=s:=⟨32*(zj (val b)).length-z1 (val b),oM⟩;rw[hs];have hs32:s<32:=oM;refine wg (zs6 a s oM oM)<|wg (zs6 (zj (val b)) s oM oM) ?_;rw[zk]
 have hpow:2^s<=4294967296^1:=by rw[zax];exact XJ dC oM
 have hpow0:0<2^s:=Qc dC
 have hUl:(zj (val a*2^s)).length<=a.length+1:=jI (by
  rw[Kd]
  exact Xy (KV (qG a) hpow0) (Kh _ hpow))
 have hVl:(zj (val b*2^s)).length<=b.length+1:=jI (by
  rw[Kd]
  exact Xy (KV (qG b) hpow0) (Kh _ hpow))
 have hV0:val b*2^s≠0:=Yn hb0 oM;have eq1:val a/val b=val a*2^s/(val b*2^s):=(Yw _ _ hpow0).symm;have eq2:val a%val b=val a*2^s%(val b*2^s)/2^s:=by rw[Yx,Nat.mul_div_cancel _ hpow0]
 rw[eq1,eq2];clear eq1 eq2 hpow hnt hnorm htop hpos hbits;generalize val a*2^s=U at*;generalize val b*2^s=V at*;have hvn:=(u9 V).resolve_left λe=>hV0 (jT.1 e)
 intro hl3;refine⟨Dig,dgE,0,rfl,wb5 ?_⟩;refine⟨Dig,dgE,[],rfl,Ob.mk zer ?_⟩;intro hl4;refine wa ?_
 refine⟨Nat×List Dig×List Dig,λ⟨j,q,r⟩=>⟨[(13,i64 ((j:Int)-1)),(12,.own 1),(11,.own 0),(9,.sl dgE (zj U)),(10,.sl dgE (zj V)),(8,i64 s)],[(1,kY r),(0,kY q)],2,83,0⟩,
  λx=>x.1<=(zj U).length/\x.2.1.length=(zj U).length/\x.2.2.length<=(zj V).length/\val ((zj U).drop x.1)=V*val (x.2.1.drop x.1)+val x.2.2/\val x.2.2<V,λx=>x.1,
  ((zj U).length,List.replicate (zj U).length 0,[]),?_,?_,?_⟩
 ·refine⟨Xi _,sI,sI,?_,by dsimp only;rw[znd];omega⟩;dsimp only;rw[zX (Xi _),zX sI,znd,Ks]
 ·exact zt [0,1] ⟨rfl,Xj (λn=>some (kY (List.replicate n 0))) oM,tV⟩
 rintro⟨j,q,r⟩ ⟨g1,g2,g3,g4,g5⟩
 dsimp only at g1 g2 g3 g4 g5;refine⟨λk1=>?_,λk1=>?_⟩
 ·refine wb λx hx=>?_;rw[show((j:Int)-1).toNat=j-1 by omega]at hx;have dx:=zR hx;have hxl:=x.isLt;refine⟨Dig,dgE,[x],rfl,Ob.mk (zgK x) ?_⟩
  refine⟨Nat,λk=>⟨[(15,i64 k),(14,.own 2),(13,i64 ((j:Int)-1)),(12,.own 1),(11,.own 0),(9,.sl dgE (zj U)),(10,.sl dgE (zj V)),(8,i64 s)],[(2,kY (x::r.take k)),(1,kY r),(0,kY q)],3,83,0⟩,
   λk=>k<=r.length,λk=>r.length-k,0,?_,?_,?_⟩
  ·exact Xg _
  ·exact zi [0,1,2]
  intro k hk;have hk:k<=r.length:=hk;intro hl5;refine⟨λk2=>?_,λk2=>?_⟩
  ·refine wb<|wb λy(hy:r[k]?=some y)=>?_;refine⟨Dig,dgE,[y],rfl,Ob.mk (zgK y) ?_⟩;refine⟨_,rfl,Ob.mk (zgL (by simp;omega)) ?_⟩;refine wa ?_
   refine⟨k+1,by show k+1<=r.length;omega,qa [(0,some 0),(1,some 1),(2,some 4)] rfl rfl rfl ⟨rfl,rfl,rfl,rfl,rfl,rfl,rfl,rfl,tV⟩
    ⟨Xj (λl=>some (kY l)) (by rw[Xm,hy];rfl),rfl,rfl,tV⟩,oN⟩
  have hkr:k=r.length:=by omega
  subst hkr;have hnx:val (x::r)<4294967296*V:=by rw[uK];omega
  have hnl:(zj (val (x::r))).length<=r.length+1:=zD (x::r);refine zb.fresh _ _ (qZ _ (by simp;omega)) rfl (qw _) (.inr (qc _)) ?_;rw[Kf];refine zb.fresh _ _ (zxq _ (zj V) oM oM hvn (by rw[zk,zk];exact hnx)) rfl (qw _) (.inr (qc _)) ?_;rw[zk,zk];have hdl:val (x::r)/V<4294967296:=by rw[XZ oM];exact hnx
  have hml:val (x::r)%V<V:=Kr _ oM;have hdm:=Ka (val (x::r)) V;generalize val (x::r)/V=dq at*;generalize hmd:val (x::r)%V=md at*;refine wa<|wb<|wb λz hz=>?_;refine⟨dof dq,Xj (λn=>[u32 n]) (by rw[z3,Xw hdl]),?_⟩;refine wa ?_
  refine⟨(j-1,q.set (j-1) (dof dq),zj md),⟨oN,by simp[g2],kZ (YK hml),?_,by dsimp only;rw[zk];exact hml⟩,
   ku [0,4] ⟨iR oM,rfl,rfl,rfl,rfl,rfl,tV⟩ ⟨rfl,Xj (λn=>some (kY (q.set n _))) oM,tV⟩,oN⟩
  dsimp only;rw[zk,zu (zj U),dx,show j-1+1=j by omega];refine zoX g4 (uK x r) hdm ?_;rw[zbe oM,z3,Xw hdl,show j-1+1=j by omega]
 have hj:j=0:=by omega
 subst hj;rw[K7,K7,zk]at g4;refine zb.fresh _ _ (qZ _ oM) rfl (qw _) (.inr (qc _))<|wa<|zb.fresh _ _ (zD0 r s oM oM) rfl (qw _) (.inr (qc _)) ?_
 have e1:val q=U/V:=by
  rw[g4,QD oM,KK g5,XU]
 have e2:val r=U%V:=by
  rw[g4,QE,Xw g5]
 exact zeQ (.cons (kM (by rw[e1])) (.cons (kM (by rw[e2])) (.C .nil)))
structure BI where
 neg:Bool
 mag:List Dig
 deriving DecidableEq
def BI.v(a:BI):Int:=if a.neg then-(val a.mag:Int) else val a.mag
def ofZ(z:Int):BI:=⟨decide (z<0),zj z.natAbs⟩
def zY(z:Int):(ofZ z).v=z:=by
 unfold BI.v ofZ;simp only[zk,decide_eq_true_eq]
 split <;> omega
def BI.v_abs(a:BI):a.v.natAbs=val a.mag:=by unfold BI.v;split <;> omega
def BI.v_eq(a:BI):(a.neg=true/\a.v= -(val a.mag:Int))∨(a.neg=false/\a.v=(val a.mag:Int)):=by
 unfold BI.v;cases a.neg <;> simp
def za0(z:Int):(ofZ z).neg=true↔z<0:=by simp[ofZ]
def zdM(z:Int):(ofZ z).mag=zj z.natAbs:=rfl
def jc(z:Int):Nat:=(zj z.natAbs).length
def zng{z:Int}{k:Nat}(h:z.natAbs<4294967296^k):jc z<=k:=jI h
def zic{z:Int}{k:Nat}(h:jc z<=k):z.natAbs<4294967296^k:=zb0 h
def vz(z:Int):jc (-z)=jc z:=by simp[jc]
def kN(x y:Int):jc (x*y)<=jc x+jc y:=by
 refine zng ?_;rw[QX,Kd];exact Qh (zic (Xi _)) (zic (Xi _))
def zfG(x y:Int):jc (x+y)<=max (jc x) (jc y)+1:=by
 refine zng ?_;have h1:=zic (Jd (jc x) (jc y));have h2:=zic (Q2 (jc x) (jc y));rw[X0];have:=Int.natAbs_add_le x y;omega
def zjb(x y:Int):jc (x-y)<=max (jc x) (jc y)+1:=by
 have:=zfG x (-y)
 rwa [vz,←Jf]at this
def vO(a:BI):jc a.v<=a.mag.length:=by
 unfold jc;rw[BI.v_abs];exact zD _
def zdN{x y:Int}(h:x.natAbs<=y.natAbs):jc x<=jc y:=kZ h
def zaz{n:Int}(h: -9223372036854775808<=n/\n<=9223372036854775807):jc n<=2:=zng (by
 rw[show 4294967296^2=18446744073709551616 by decide];omega)
def kQ(a b:Int):Int:=
 if a<0↔b<0 then((2*a.natAbs+b.natAbs)/(2*b.natAbs):Nat) else-((2*a.natAbs+b.natAbs)/(2*b.natAbs):Nat)
def zjc(a b:Int):(kQ a b).natAbs=(2*a.natAbs+b.natAbs)/(2*b.natAbs):=by
 unfold kQ;generalize (2*a.natAbs+b.natAbs)/(2*b.natAbs)=q
 split <;> omega
def biE(a:BI):LQ:=[pr (a.neg=true),.sl dgE a.mag]
def zaA(p:Prop)[i:Decidable p](m:List Dig)(hm:m.length<=1000000000):
  CX 147 [.pr p i,.sl dgE m] (.agg (biE (ofZ (if p then-(val m:Int) else val m)))):=by
 refine zd func147<|wg (yR m hm)<|⟨λh=>?_,λh=>?_⟩
 ·intro hl;refine jg (.cons (zr ?_) (.cons (kM ?_) .nil))
  ·rw[Xe h,za0];have:=qY (n:=val m);omega
  rw[Xe h,zdM];congr 1;omega
 refine jg (.cons (zc ?_) (.cons (kM ?_) .nil))
 ·rw[Xb h,za0];omega
 rw[Xb h,zdM];congr 1
def zAX(a:BI)(hm:a.mag.length<=1000000000):
  CX 147 [pr (a.neg=true),.sl dgE a.mag] (.agg (biE (ofZ a.v))):=zaA (a.neg=true) a.mag hm
def dTwo(c d:Dig):[c,d].length=2/\2<=281474976710656/\2*1<=16777216/\0<1/\∀x∈[c,d],(dgE x).length=1/\jn (dgE x)=true/\jw.flats (dgE x)=true:=
 ⟨rfl,dC,dC,dC,λ_ _=>⟨rfl,rfl,rfl⟩⟩
def znh(m:Nat)(h:m<18446744073709551616):val [dof m,dof (m/4294967296)]=m:=by
 simp only[val,z3];omega
def zeR(n:Int)(hn:R64 n):CX 104 [i64 n] (.agg (biE (ofZ n))):=by
 refine zd func104<|Ar.wrap<|Br.mk (λh=>?_) (λh=>?_)
 ·refine Ar.wrap ?_;have e:IntKind.u64.wrap (0-IntKind.u64.wrap n)=((n.natAbs:Nat):Int):=by rw[jP,jP];omega
  refine Ar.wrap<|wb1<|Ar.wrap<|⟨Dig,dgE,[dof n.natAbs,dof (n.natAbs/4294967296)],congr (Xj (λn m=>[u32 n,u32 m]) (zay e)) (zay (by rw[e];simp only[Int.reducePow];omega)),Ob.mk (dTwo _ _) ?_⟩;refine zb.see 1 _ (zaA (n<0) [dof n.natAbs,dof (n.natAbs/4294967296)] sI) rfl rfl rfl ?_;rw[Xe h,znh _ oM,show(-(n.natAbs:Int))=n by omega];exact .refl
 have e:IntKind.u64.wrap n=((n.natAbs:Nat):Int):=by rw[jP];omega
 refine Ar.wrap<|wb1<|Ar.wrap<|⟨Dig,dgE,[dof n.natAbs,dof (n.natAbs/4294967296)],congr (Xj (λn m=>[u32 n,u32 m]) (zay e)) (zay (by rw[e];simp only[Int.reducePow];omega)),Ob.mk (dTwo _ _) ?_⟩;refine zb.see 1 _ (zaA (n<0) [dof n.natAbs,dof (n.natAbs/4294967296)] sI) rfl rfl rfl ?_;rw[Xb h,znh _ oM,show(n.natAbs:Int)=n by omega];exact .refl
def zfH(a:BI)(ha:a.mag.length<=1000000000):CX 105 [.agg (biE a)] (i64 a.v.sign):=by
 refine zd func105<|wg (zAX a ha) λhl=>?_;have h1:=qY (n:=a.v.natAbs);refine⟨λh=>?_,λh=>?_⟩
 ·have:a.v=0:=by rw[zdM]at h;omega
  exact zh (by rw[this];rfl)
 have h0:a.v≠0:=by rw[zdM]at h;omega
 refine⟨λh2=>?_,λh2=>?_⟩
 ·rw[za0]at h2;exact zh (Ki h2).symm
 rw[za0]at h2;exact zh (Kq oM).symm
def zDb(a b:BI):(if¬(a.neg=true↔b.neg=true) then-((val a.mag*val b.mag:Nat):Int) else((val a.mag*val b.mag:Nat):Int))=a.v*b.v:=by
 obtain⟨h1,h2⟩|⟨h1,h2⟩:=a.v_eq <;> obtain⟨h3,h4⟩|⟨h3,h4⟩:=b.v_eq <;> simp[h1,h2,h3,h4,Int.neg_mul,QV]
def zeS(a b:BI)(ha:a.mag.length<=400000000)(hb:b.mag.length<=400000000):CX 199 [.agg (biE a),.agg (biE b)] (.agg (biE (ofZ (a.v*b.v)))):=by
 refine zd func199<|wc<|wg (zAV a.mag b.mag ha hb) ?_
 have hl:(zj (val a.mag*val b.mag)).length<=1000000000:=by
  refine XE (jI (k:=a.mag.length+b.mag.length) ?_) oM;rw[Kd];exact Qh (qG _) (qG _)
 refine wg (zaA (¬(a.neg=true↔b.neg=true)) _ hl) ?_;rw[zk,zDb];exact .refl
def zjd{a b:List Dig}{k:Nat}(ha:a.length<=k)(hb:b.length<=k):(zj (val a+val b)).length<=k+1:=by
 refine jI ?_;have h1:=Xy (qG a) (XJ (show 0<4294967296 by decide) ha);have h2:=Xy (qG b) (XJ (show 0<4294967296 by decide) hb);rw[X0];omega
def zrv{x y:Nat}(hx:x<18446744073709551616)(hy:y<18446744073709551616):uX .or .u64 x y=((x|||y:Nat):Int):=by
 show IntKind.u64.wrap ((BitVec.ofInt 64 x|||BitVec.ofInt 64 y).toNat:Nat)=_;have h:x|||y<2^64:=Nat.or_lt_two_pow hx hy
 have e:(BitVec.ofInt 64 x|||BitVec.ofInt 64 y).toNat=x|||y:=by
  rw[BitVec.toNat_or,Qb,Qb];congr 1
  ·omega
  omega
 rw[e,jP];omega
def zaT(z:Int):Int:=if-9223372036854775808<=z/\z<=9223372036854775807 then z else 0
def zje(n:Int)(hn:R64 n):CX 497 [i64 n] (u64 (n.natAbs:Nat)):=by
 refine zd func497<|Br.mk (λh=>?_) (λh=>?_)
 ·exact Ar.wrap<|Ar.wrap<|zh (by rw[jP,jP];omega)
 exact wa<|zh oM
def zs7(x:Nat):uX .and .u64 x 4294967295=((x%4294967296:Nat):Int):=by
 have e:(BitVec.ofInt 64 x&&&BitVec.ofInt 64 4294967295).toNat=x%4294967296:=by
  rw[BitVec.toNat_and];have h1:(BitVec.ofInt 64 4294967295).toNat=2^32-1:=dC;rw[h1,JB,Qb];rw[show(2:Nat)^32=4294967296 by decide];omega
 show IntKind.u64.wrap ((BitVec.ofInt 64 x&&&BitVec.ofInt 64 4294967295).toNat:Nat)=_;rw[e,jP];omega
def zs8(x y:Nat)(hx:x<18446744073709551616)(hy:y<18446744073709551616):
  CX 490 [u64 x,u64 y] (.tup [u64 (x*y/18446744073709551616:Nat),u64 (x*y%18446744073709551616:Nat)]):=by
 refine zd func490 ?_;obtain⟨k1,k2,k3,k4⟩:=Go.Lib.mul64_hi x y hx hy;have k0:(x/4294967296)*(y%4294967296)<=(x/4294967296)*(y%4294967296)+(x%4294967296)*(y%4294967296)/4294967296:=JC _ _
 have k5:x*y/18446744073709551616<18446744073709551616:=by
  rw[XZ dC];exact Qh hx hy
 refine⟨_,(zs7 x).symm,?_⟩;refine wb1<|⟨_,(zs7 y).symm,?_⟩;refine wb1 ?_;have ex:(x:Int)/2^32=((x/4294967296:Nat):Int):=by simp
 have ey:(y:Int)/2^32=((y/4294967296:Nat):Int):=by simp
 have hc:=Go.Lib.half_mul_le (a:=x%4294967296) (b:=y/4294967296) oM oM;have ha:=Go.Lib.half_mul_le (a:=x/4294967296) (b:=y/4294967296) oM oM;rw[ex,ey];generalize hx1:x/4294967296=x1 at*;generalize hx0:x%4294967296=x0 at*;generalize hy1:y/4294967296=y1 at*;generalize hy0:y%4294967296=y0 at*;(iterate 2 refine wa ?_);refine wb1 ?_;have e1:((x0:Int)*(y0:Int))/2^32=((x0*y0/4294967296:Nat):Int):=by simp
 rw[e1];generalize x0*y0/4294967296=w0 at*;refine wa ?_;have e2:(x1:Int)*(y0:Int)+(w0:Int)=((x1*y0+w0:Nat):Int):=by simp
 rw[e2];generalize x1*y0+w0=t at*;refine⟨_,(zs7 t).symm,?_⟩;refine wb1 ?_;have e3:(t:Int)/2^32=((t/4294967296:Nat):Int):=by simp
 rw[e3];(iterate 4 refine wa ?_);refine wb1 ?_;have e4:(((t%4294967296:Nat):Int)+(x0:Int)*(y1:Int))/2^32=(((t%4294967296+x0*y1)/4294967296:Nat):Int):=by simp
 rw[e4];refine wa<|Ar.wrap<|zW (zh ?_) (zh ?_)
 ·rw[←k4];simp
 rw[jP];simp
def zAY(lo y:Nat)(hlo:lo<18446744073709551616)(hy:y<18446744073709551616)(h0:y≠0):
  CX 506 [u64 (0:Nat),u64 lo,u64 y] (.tup [u64 (lo/y:Nat),u64 (lo%y:Nat)]):=by
 refine zd func506<|Br.mk (λh=>absurd h oM) (λ_=>?_);refine⟨λh=>absurd h oM,λ_=>?_⟩;refine⟨λ_=>?_,λh=>absurd rfl h⟩;exact wc<|Dv.pos ⟨oM,oM,by show _<=(18446744073709551615:Int);omega⟩<|Dv.pos ⟨oM,oM⟩<|zW (zh sI) (zh sI)
def rup(lo by_:Nat):Nat:=(2*lo+by_)/(2*by_)
def zxr{lo y:Nat}(h0:y≠0):rup lo y=if y<=2*(lo%y) then lo/y+1 else lo/y:=by
 unfold rup;have e:=Ka lo y;have hl:=Kr lo (Kl h0);generalize lo/y=q at*;generalize lo%y=r at*;subst e;have p:2*(y*q+r)+y=2*y*q+(2*r+y):=by rw[KN,KR];omega
 rw[p,QD oM]
 split
 ·have:(2*r+y)/(2*y)=1:=by
   rw[Nat.div_eq_iff oM];omega
  omega
 have:(2*r+y)/(2*y)=0:=KK oM;omega
def zD1(lo y:Nat)(hlo:lo<=9223372036854775808)(hy:y<18446744073709551616)(h0:y≠0):
  CX 499 [.agg [u64 (0:Nat),u64 lo,u64 y]] (.tup [u64 (rup lo y:Nat),bl true]):=by
 refine zd func499<|Br.mk (λh=>absurd h oM) (λ_=>?_);refine wg (zAY lo y oM hy h0) ?_;have hq:=Qu lo y;have hr:=Kr lo (Kl h0);have he:=zxr (lo:=lo) h0;generalize rup lo y=u at*;generalize lo/y=q at*;generalize lo%y=r at*;refine wa<|Br.mk (λh=>?_) (λh=>?_)
 ·rw[Xe oM]at he;exact wa<|zW (zh oM) (zrm oM)
 rw[Xb oM]at he;exact zW (zh oM) .refl
def zxs(p:Prop)[i:Decidable p](lo y:Nat)(hlo:lo<=9223372036854775808)(hy:y<18446744073709551616)(h0:y≠0):
  CG0 498 [.pr p i,.val (.func (.func 499) #[.agg #[.int .u64 (0:Nat),.int .u64 (lo:Nat),.int .u64 (y:Nat)]] #[])] []
   (.tup [i64 (zaT (if p then-(rup lo y:Int) else rup lo y)),pr (-9223372036854775808<=(if p then-(rup lo y:Int) else rup lo y)/\(if p then-(rup lo y:Int) else rup lo y)<=9223372036854775807)]) []:=by
 refine zd func498<|wg (zD1 lo y hlo hy h0) ?_
 have hu:rup lo y<18446744073709551616:=by
  rw[zxr h0];have:=Qu lo y
  split <;> omega
 generalize rup lo y=u at*
 have bad:∀z:Int,¬(-9223372036854775808<=z/\z<=9223372036854775807)->LE (.tup [i64 0,bl false]) (.tup [i64 (zaT z),pr (-9223372036854775808<=z/\z<=9223372036854775807)]):=λz h=>
  zW (zh (by rw[zaT,Xb h])) (zc h)
 have good:∀n z:Int,n=z-> -9223372036854775808<=z/\z<=9223372036854775807->LE (.tup [i64 n,bl true]) (.tup [i64 (zaT z),pr (-9223372036854775808<=z/\z<=9223372036854775807)]):=λn z hn h=>
  zW (zh (by rw[zaT,Xe h,hn])) (zI h)
 refine⟨λh=>bad _ (by split <;> omega),λh=>?_⟩
 have tail:(u:Int)<=9223372036854775808->((u:Int)=9223372036854775808->p)->IntKind.i64.wrap (IntKind.u64.wrap (-(u:Int)))= -(u:Int)/\(¬p->(u:Int)<=9223372036854775807):=λg1 g2=>by
  refine⟨?_,λhp=>?_⟩
  ·rw[jP];simp only[IntKind.wrap,IntKind.bits,IntKind.signed];simp;omega
  by_cases e:(u:Int)=9223372036854775808
  ·exact absurd (g2 e) hp
  omega
 refine⟨λh1=>?_,λh1=>?_⟩
 ·refine⟨λh2=>bad _ (by rw[Xb h2];omega),λh2=>?_⟩;have hp:=Xc.1 h2;obtain⟨t1,t2⟩:=tail oM (λ_=>hp);refine⟨λ_=>?_,λh3=>absurd hp h3⟩;exact Ar.wrap<|Ar.wrap<|good _ _ (by rw[Xe hp];exact t1) (by rw[Xe hp];omega)
 obtain⟨t1,t2⟩:=tail oM (λh=>absurd h h1);refine⟨λh3=>?_,λh3=>?_⟩
 ·exact Ar.wrap<|Ar.wrap<|good _ _ (by rw[Xe h3];exact t1) (by rw[Xe h3];omega)
 have:=t2 h3;exact wa<|good _ _ (by rw[Xb h3]) (by rw[Xb h3];omega)
def zxt(a c:Int):(if¬(¬(a<0↔(1:Int)<0)↔c<0) then-(rup a.natAbs c.natAbs:Int) else(rup a.natAbs c.natAbs:Int))=kQ a c:=by
 unfold kQ;show _=if a<0↔c<0 then((rup a.natAbs c.natAbs:Nat):Int) else-((rup a.natAbs c.natAbs:Nat):Int)
 generalize (rup a.natAbs c.natAbs:Int)=u
 by_cases h1:a<0 <;> by_cases h2:c<0 <;> simp[h1,h2]
def zu0(a c:Int)(ha:R64 a)(hc:R64 c):CG0 483 [i64 a,i64 1,i64 c] []
  (.tup [i64 (zaT (kQ a c)),pr (c≠0/\ -9223372036854775808<=kQ a c/\kQ a c<=9223372036854775807)]) []:=by
 refine zd func483<|Br.mk (λh=>?_) (λh=>?_)
 ·refine zW (zh ?_) (zc λh'=>h'.1 h);subst h;simp[kQ,zaT]
 refine wg (zje a ha)<|wg (zje 1 dC)<|wg (zs8 a.natAbs (1:Int).natAbs oM oM) ?_;rw[show(1:Int).natAbs=1 by rfl,Jj,KK (show a.natAbs<18446744073709551616 by omega),Xw (show a.natAbs<18446744073709551616 by omega)];refine wg (zje c hc)<|wg (zxs (¬(¬(a<0↔(1:Int)<0)↔c<0)) a.natAbs c.natAbs oM oM oM) ?_;rw[zxt a c];exact zW .refl (zr ⟨λg=>⟨h,g⟩,λg=>g.2⟩)
def ud(a b:Int)(ha:R64 a)(hb:R64 b):CX 444 [i64 a,i64 b] (i64 (zaT (kQ a b))):=by
 exact zd func444<|wg (zu0 a b ha hb)<|.refl
def zni(a:List Dig)(ha:a.length<=1000000000):CX 428 [.sl dgE a] (.full dgE (zj (val a))):=by
 refine zd func428 λhl0=>?_;refine⟨Nat,λn=>⟨[(3,i64 n),(0,.sl dgE a)],[],0,22,0⟩,λn=>n<=a.length/\∀i,n<=i->dig a i=0,λn=>n,a.length,?_,?_,?_⟩
 ·exact⟨Xi _,λi h=>v6 h⟩
 ·exact zA []
 rintro n ⟨h1,h2⟩
 have post:(n=0∨dig a (n-1)≠0)->((a.drop (0:Int).toNat).take ((n:Int)-0).toNat)=zj (val a):=λh3=>by
  rw[←zi8 h3 h1 h2];simp
 refine⟨λh3=>?_,λh3=>?_⟩
 ·refine wa<|wb λx hx=>?_;rw[show((n:Int)-1).toNat=n-1 by omega]at hx;have dx:=zR hx;refine⟨λh4=>?_,λh4=>?_⟩
  ·refine wa<|⟨n-1,⟨oM,λi hi=>?_⟩,qN [] ⟨iR oM,rfl,tV⟩ trivial,oN⟩
   by_cases e:i=n-1
   ·subst e;rw[dx];omega
   exact h2 i oM
  refine zwN.full (Ob.mk ⟨⟨oM,oM,rfl,oM⟩,λ_ _=>rfl⟩ ?_);exact zs3 (post (.inr oM))
 refine zwN.full (Ob.mk ⟨⟨oM,oM,rfl,oM⟩,λ_ _=>rfl⟩ ?_);exact zs3 (post (.inl oM))
def qT(a:List Dig)(ha:a.length<=1000000000):CX 428 [.sl dgE a] (.sl dgE (zj (val a))):=(zni a ha).le (zbY rfl)
def znj(q:List Dig)(hq:q.length<=1000000000):CX 229 [.sl dgE q] (.sl dgE q):=by
 refine zd func229 ?_
 by_cases h0:q=[]
 ·refine zcz.any (Br.mk ?_ ?_)
  ·subst h0;exact zw
  refine⟨Dig,dgE,[],rfl,Ob.mk zer ?_⟩;refine⟨q,rfl,Ob.mk (zgL (by simp only[Xt];omega)) ?_⟩;exact kM rfl
 refine zcz.some (λh=>h0 (Xo h))<|⟨Dig,dgE,[],rfl,Ob.mk zer ?_⟩;refine⟨q,rfl,Ob.mk (zgL (by simp only[Xt];omega)) ?_⟩;exact kM rfl
def vA(a:List Dig)(ha:a.length<=1000000000):CX 375 [.sl dgE a] (.sl dgE (zj (val a))):=by
 exact zd func375<|wg (qT a ha)<|wg (znj _ (by have:=zD a;omega))<|.refl
def zdO(n:Nat)(hn:n<18446744073709551616):CX 407 [u64 n] (.sl dgE (zj n)):=by
 refine zd func407<|Ar.wrap<|wb1<|Ar.wrap<|⟨Dig,dgE,[dof n,dof (n/4294967296)],congr (Xj (λn m=>[u32 n,u32 m]) (zay rfl)) (zay (by simp only[Int.reducePow];omega)),Ob.mk (dTwo _ _) ?_⟩;refine zb.see 0 _ (vA [dof n,dof (n/4294967296)] sI) rfl rfl rfl ?_;rw[znh _ hn];exact .refl
def zdP(a:List Dig)(i:Int)(hi:0<=i):CX 481 [.sl dgE a,i64 i] (u64 (dig a i.toNat)):=by
 refine zd func481 λhl=>?_;refine⟨λh=>?_,λh=>?_⟩
 ·refine wb λx hx=>?_;have:=x.isLt;exact wa<|zh (by rw[zR hx])
 exact zh (by rw[v6 oM];rfl)
def zjf{A B:Nat}(h:(zj A).length<(zj B).length):A<B:=by
 have h1:=zb0 (n:=A) (Xi _);have h2:=zne (n:=B) (λe=>by rw[e,jr]at h;simp at h);exact Xy h1 (XE (XJ dC oM) h2)
def zDc(a b:List Dig)(ha:a.length<=1000000000)(hb:b.length<=1000000000):
  CX 475 [.sl dgE a,.sl dgE b] (i64 (zfD (val a) (val b))):=by
 refine zd func475<|wg (qT a ha)<|wg (qT b hb) ?_;have la:=zD a;have lb:=zD b;generalize val a=A at*;generalize val b=B at*;intro hl1 hl2;refine⟨λh3=>?_,λh3=>?_⟩
 ·intro hl4 hl5;refine⟨λh6=>?_,λh6=>?_⟩
  ·have:=zjf (A:=A) (B:=B) oM;exact zh (by rw[zfD,Xe this])
  have:=zjf (A:=B) (B:=A) oM;exact zh (by rw[zfD,Xb oM,Xe this])
 have h3:(zj A).length=(zj B).length:=oM;intro hl7;refine wa<|⟨Nat,λj=>⟨[(5,i64 ((j:Int)-1)),(0,.sl dgE (zj A)),(1,.sl dgE (zj B))],[],0,45,0⟩,λj=>j<=(zj A).length/\∀i,j<=i->dig (zj A) i=dig (zj B) i,λj=>j,(zj A).length,?_,?_,?_⟩
 ·exact⟨oM,λi hi=>by rw[v6 oM,v6 oM]⟩
 ·exact zA []
 rintro j ⟨h1,h2⟩
 refine⟨λh8=>?_,λh8=>?_⟩
 ·have h2':∀i,j-1+1<=i->dig (zj A) i=dig (zj B) i:=λi hi=>h2 i oM
  refine wc<|wb λx hx=>?_;rw[show((j:Int)-1).toNat=j-1 by omega]at hx;have dx:=zR hx;refine wb λy hy=>?_;rw[show((j:Int)-1).toNat=j-1 by omega]at hy;have dy:=zR hy;refine⟨λh4=>?_,λh4=>?_⟩
  ·have:=zfE h2' oM;rw[zk,zk]at this;exact zh (by rw[zfD,Xe this])
  refine wc<|wb λx' hx'=>?_;rw[show((j:Int)-1).toNat=j-1 by omega,hx]at hx'
  cases hx'
  refine wb λy' hy'=>?_;rw[show((j:Int)-1).toNat=j-1 by omega,hy]at hy'
  cases hy'
  refine⟨λh5=>?_,λh5=>?_⟩
  ·have:=zfE (λi hi=>(h2' i hi).symm) oM;rw[zk,zk]at this;exact zh (by rw[zfD,Xb oM,Xe this])
  refine wa<|⟨j-1,⟨oM,λi hi=>?_⟩,qN [] ⟨iR oM,rfl,rfl,tV⟩ trivial,oN⟩
  by_cases hij:i=j-1
  ·subst hij;omega
  exact h2 i oM
 have hj:j=0:=by omega
 subst hj;have:=zlv λi=>h2 i (Xg _)
 rw[zk,zk]at this;exact zh (by rw[zfD,Xb oM,Xb oM])
def zDd(a b:List Dig)(ha:a.length<=900000000)(hb:b.length<=900000000):
  CX 430 [.sl dgE a,.sl dgE b] (.sl dgE (zj (val a+val b))):=by
 refine zd func430 λhl1 hl2=>Ar.fit (by simp only[zfk];omega) ?_;have en:zfk (a.length:Int) [(b.length:Int)]+1=((max a.length b.length+1:Nat):Int):=by simp only[zfk];omega
 change ∃_,_;rw[en];generalize hn:max a.length b.length+1=n at*;refine⟨Dig,dgE,0,rfl,wb5 ?_⟩;intro hl3
 refine⟨Nat×List Dig×Nat,λ⟨i,out,c⟩=>⟨[(17,i64 i),(16,i64 n),(6,u64 c),(5,.own 0),(0,.sl dgE a),(1,.sl dgE b)],[(0,kY out)],1,39,0⟩,
  λq=>q.1<=n/\q.2.1.length=n/\q.2.2<=1/\(∀j,q.1<=j->dig q.2.1 j=0)/\val q.2.1+4294967296^q.1*q.2.2=val (a.take q.1)+val (b.take q.1),λq=>n-q.1,(0,List.replicate n 0,0),?_,?_,?_⟩
 ·exact⟨Xg _,sI,Xg _,λj _=>jZ _ _,by simp[zac,val]⟩
 ·exact ku [0] ⟨rfl,iR sI,rfl,rfl,rfl,rfl,tV⟩ ⟨rfl,tV⟩
 rintro⟨i,out,c⟩ ⟨h1,h2,h3,h4,h5⟩
 dsimp only at h1 h2 h3 h4 h5;refine⟨λh6=>?_,λh6=>?_⟩
 ·have d1:=yb a i;have d2:=yb b i;refine wg (zdP a _ oM)<|wg (zdP b _ oM) ?_;simp only[XX];(iterate 2 refine wa ?_);refine Ar.wrap<|wb<|wb λz hz=>?_;refine⟨dof (dig a i+dig b i+c),Xj (λn=>[u32 n]) (zay oM),?_⟩;refine wb1<|wa ?_
  refine⟨(i+1,out.set i (dof (dig a i+dig b i+c)),(dig a i+dig b i+c)/4294967296),⟨oN,by simp[h2],oN,λj hj=>?_,?_⟩,
   ku [0] ⟨rfl,rfl,Xj (λn=>some (u64 n)) (by simp only[Int.reducePow];omega),rfl,rfl,rfl,tV⟩ ⟨rfl,tV⟩,oN⟩
  ·dsimp only at hj ⊢;rw[jk,Xb oM];exact h4 j oM
  dsimp only;have hs:=vu out i (dof (dig a i+dig b i+c)) oM;rw[h4 i (Xi _),z3,Ks,XU]at hs;rw[hs,zP,zP,X0];have e:=Ka (dig a i+dig b i+c) 4294967296;generalize (dig a i+dig b i+c)/4294967296=x at*;generalize (dig a i+dig b i+c)%4294967296=y at*;generalize 4294967296^i=p at*;clear hs h4
  grind
 have hi:i=n:=by omega
 subst hi;rw[kJ oM,kJ oM]at h5
 have hc:c=0:=by
  have l1:=Xy (qG a) (XJ (show 0<4294967296 by decide) (show a.length<=i-1 by omega));have l2:=Xy (qG b) (XJ (show 0<4294967296 by decide) (show b.length<=i-1 by omega));have e:4294967296^i=4294967296^(i-1)*4294967296:=by rw[←X0];congr 1;omega
  have:c=0∨c=1:=oM
  rcases this with h|h
  ·exact h
  subst h;omega
 subst hc;refine zb.see 0 _ (qT out oM) rfl rfl rfl ?_;rw[show val out=val a+val b by omega];exact .refl
def zDe(a b:List Dig)(ha:a.length<=900000000)(hb:b.length<=900000000):
  CX 434 [.sl dgE a,.sl dgE b] (.tup [.sl dgE (zj (val a-val b)),pr (val b<=val a)]):=by
 refine zd func434<|wg (zDc a b oM oM)<|⟨λh=>?_,λh=>?_⟩
 ·have hlt:=zdK.1 h;refine zW ?_ (zc oM);rw[Yy oM,jr];exact zw
 have hle:val b<=val a:=QJ λh'=>h (zdK.2 h')
 refine wg (qT a oM) ?_;have la:=zD a;have ldef:=zb0 (n:=val a) (Xi _);intro hl2;generalize hn:(zj (val a)).length=n at*;refine⟨Dig,dgE,0,rfl,wb5 ?_⟩;intro hl3
 refine⟨Nat×List Dig×Nat,λ⟨i,out,c⟩=>⟨[(20,i64 i),(19,i64 n),(7,u64 c),(6,.own 0),(0,.sl dgE a),(1,.sl dgE b)],[(0,kY out)],1,42,0⟩,
  λq=>q.1<=n/\q.2.1.length=n/\q.2.2<=1/\(∀j,q.1<=j->dig q.2.1 j=0)/\val q.2.1+val (b.take q.1)=val (a.take q.1)+4294967296^q.1*q.2.2,λq=>n-q.1,(0,List.replicate n 0,0),?_,?_,?_⟩
 ·exact⟨Xg _,sI,Xg _,λj _=>jZ _ _,by simp[zac,val]⟩
 ·exact ku [0] ⟨rfl,iR sI,rfl,rfl,rfl,rfl,tV⟩ ⟨rfl,tV⟩
 rintro⟨i,out,c⟩ ⟨h1,h2,h3,h4,h5⟩
 dsimp only at h1 h2 h3 h4 h5;refine⟨λh6=>?_,λh6=>?_⟩
 ·have d1:=yb a i;have d2:=yb b i;refine wg (zdP a _ oM)<|wg (zdP b _ oM) ?_;simp only[XX];refine Ar.wrap<|Ar.wrap<|Ar.wrap<|wb<|wb λz hz=>?_;refine⟨dof (4294967296+dig a i-dig b i-c),Xj (λn=>[u32 n]) (by rw[zja,jP,jP,z3];omega),?_⟩;refine wb1<|wa ?_
  refine⟨(i+1,out.set i (dof (4294967296+dig a i-dig b i-c)),1-(4294967296+dig a i-dig b i-c)/4294967296),⟨oN,by simp[h2],oN,λj hj=>?_,?_⟩,
   ku [0] ⟨rfl,rfl,Xj (λn=>some (u64 n)) (by rw[jP,jP];simp only[Int.reducePow];omega),rfl,rfl,rfl,tV⟩ ⟨rfl,tV⟩,oN⟩
  ·dsimp only at hj ⊢;rw[jk,Xb oM];exact h4 j oM
  dsimp only;have hs:=vu out i (dof (4294967296+dig a i-dig b i-c)) oM;rw[h4 i (Xi _),z3,Ks,XU]at hs;rw[hs,zP,zP,X0];have e:(4294967296+dig a i-dig b i-c)%4294967296+dig b i+c=dig a i+4294967296*(1-(4294967296+dig a i-dig b i-c)/4294967296):=oM;generalize 1-(4294967296+dig a i-dig b i-c)/4294967296=x at*;generalize (4294967296+dig a i-dig b i-c)%4294967296=y at*;generalize 4294967296^i=p at*
  have e2:p*y+p*dig b i+p*c=p*dig a i+p*4294967296*x:=by
   rw[←KN,←KN,e,KN,KR]
  omega
 have hi:i=n:=by omega
 subst hi;have ea:val (a.take i)=val a:=by rw[zoV,Xw ldef]
 have eb:val (b.take i)=val b:=by rw[zoV,Xw (Qo hle ldef)]
 rw[ea,eb]at h5;have e4:=qG out;rw[h2]at e4
 have e:val out=val a-val b:=by
  have:c=0∨c=1:=oM
  rcases this with rfl|rfl <;> omega
 refine zb.see 0 _ (qT out oM) rfl rfl rfl ?_;rw[e];exact zW .refl (zI hle)
abbrev wl(x:BI):SV:=.agg (biE x)
abbrev LA:=List Dig
end Go.Gs
