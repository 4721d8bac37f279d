/- A function that is handed blocks, and leaves blocks, za many za it will. -/
import GoSem.Claim
import Derived.Test.YtdkomlilfdbahaaGreatDoorMAK
set_option maxRecDepth 100000
set_option maxHeartbeats 80000000
set_option linter.all false
namespace Go.Gs
open Proofs.Tryz
section
def endG(I:LS)(rs:List ResultVar)(r:SV)(M':LT)(e:Ex)(O:St):Prop:=
 match e with
 |.exit _=>False
 |_=>∃O',Sub O O'/\O'.M=M'/\zaw O' I rs λs=>LE s r
variable{P:Program}{I:LS}{f:FuncId}{fn:Func}{c:Code}{r:SV}
def uk(hT:TOK P I)(u:P.follows .mixedOrders=true){args:LR}{M M':LT}(t:P.funcs[f]?=some fn)(l:fn.body=some c)(o:(fn.name== "runtime.NumGoroutine")=false) (j:Nat.ble args.length fn.ntmps=true)
  (h:js P I c ⟨qG 0 args,M,M.length,fn.ntmps,M.length⟩ (endG I fn.results.toList r M')):kL P f args M r M':=by
 refine vj hT u t l o j h (Q':=λe O=>(∀id,e≠.exit id)/\O.M=M'/\zaw O I fn.results.toList λs=>LE s r) (λe O d=>?_) (λe O d x=>?_) (λid O d=>d.1 id rfl)
 .cases e with
  |exit id=>exact d.elim
  |normal=>obtain⟨O',k,m,n⟩:=d;exact⟨O',k,λ_=>by simp,m,n⟩
  |ret=>obtain⟨O',k,m,n⟩:=d;exact⟨O',k,λ_=>by simp,m,n⟩
 obtain⟨_,hM,d⟩:=d;obtain⟨s,j,k⟩:=jj hT d;refine⟨s,k,λ{E Z a w v} q hW hρ0 p=>⟨Z,?_,?_,?_⟩⟩
 .have g:=q.stp;rw[hM]at g;exact⟨g.os,g.tape,g.output,g.size,λb l o=>g.block b l λh=>o ((hW b).1 h),λb l=>(g.own b l).imp (hW b).1 id,g.rho⟩
 .have:=q.mem
  rwa [hM]at this
 rw[hM]at p;exact j _ _ _ _ _ p
def zDJ{q:Int}(k:Nat)(b:k<=32):vy .and .i64 q (2^k-1)=q%2^k:=by
 have t:(2:Int)^k<=2^32:=by
  have:=XJ (show 0<2 by decide) b
  exact_mod_cast this
 have p:(1:Int)<=2^k:=by
  have:=Nat.one_le_two_pow (n:=k)
  exact_mod_cast this
 have s:(2:Nat)^k<=2^32:=XJ dC b;have hpn0:=Nat.one_le_two_pow (n:=k);have m:((2^k:Nat):Int)=(2:Int)^k:=by exact_mod_cast rfl
 have e:(BitVec.ofInt 64 q&&&BitVec.ofInt 64 (2^k-1)).toNat=(q%2^k).toNat:=by
  rw[BitVec.toNat_and]
  have d:(BitVec.ofInt 64 ((2:Int)^k-1)).toNat=2^k-1:=by
   rw[Qh];omega
  rw[d,JM,Qh];have o:((2:Int)^k) ∣ (2:Int)^64:=⟨2^(64-k),by rw[←Int.pow_add];congr 1;omega⟩;have g:(q%(2:Int)^64)%2^k=q%2^k:=Int.emod_emod_of_dvd q o;have h:=Kj q (show(2:Int)^64≠0 by decide);have a:=Kj q (show(2:Int)^k≠0 by omega)
  have j:(((q%(2:Int)^64).toNat%2^k:Nat):Int)=q%2^k:=by
   rw[Q5,m,Qz h,g]
  show(q%((2^64:Nat):Int)).toNat%2^k=_;have l:((2^64:Nat):Int)=(2:Int)^64:=dC;rw[l];omega
 show IntKind.i64.wrap ((BitVec.ofInt 64 q&&&BitVec.ofInt 64 (2^k-1)).toNat:Nat)=_;rw[e];have a:=Kj q (show(2:Int)^k≠0 by omega);have j:=Kg q (show(0:Int)<2^k by omega);rw[Qz a];generalize q%2^k=z at*;simp only[IntKind.wrap,IntKind.bits,IntKind.signed];simp;omega
variable{O:St}
def zvA(e:Nat){m g:Mem}(y:zO O.M e=some m)(A:∀(S Pm:LI) (Z:zh) (w:World),jD S Pm Z w e m->jD S Pm Z w e g):
  Sub O ⟨O.L,qL O.M e g,O.nk,O.nt,O.n0⟩:=by
 intro E Z a w d;refine⟨Z,?_⟩;have hkeys:(qL O.M e g).map (·.1)=O.M.map (·.1):=zbc;have j:∀b,Own (qL O.M e g) Z b->Own O.M Z b:=λb o=>zax hkeys.symm o
 have hown':∀b,Own O.M Z b->Own (qL O.M e g) Z b:=λb o=>zax hkeys o
 have eo:Own (qL O.M e g) Z=Own O.M Z:=funext λb=>propext ⟨j b,hown' b⟩
 refine⟨d.size,d.defers,λt s z=>?_,⟨λl n p=>?_,yS hkeys d.mem.keys,λl n B C v1 v2 b p k=>?_,λb o=>d.mem.old b (j b o),d.mem.kp,d.mem.glO j⟩,
  d.fresh,?_,d.keep,d.low⟩
 .show t<O.nt/\G (λb=>E.Keep b∨Own (qL O.M e g) Z b) (Own (qL O.M e g) Z) Z w s (a.tmps.getD t undef);rw[eo];exact d.regs t s z
 .show jD (λb=>E.Keep b∨Own (qL O.M e g) Z b) (Own (qL O.M e g) Z) Z w l n;rw[eo]
  obtain⟨_,k⟩|k:=jS d.mem.keys _ p
  .exact d.mem.rel l n k
  cases k
  exact A _ _ _ _ (d.mem.rel e m (zu y))
 .have back:∀l n,(l,n)∈qL O.M e g->∃g,(l,g)∈O.M:=λl n h=>by
   obtain⟨_,k⟩|k:=jS d.mem.keys _ h
   .exact⟨n,k⟩
   cases k;exact⟨_,zu y⟩
  obtain⟨v,q⟩:=back _ _ p;obtain⟨x,u⟩:=back _ _ k;exact d.mem.apart l v B x v1 v2 b q u
 show Stp E.W0 (Own (qL O.M e g) Z) E.ρ0 Z E.w0 w;rw[eo];exact d.stp
def LEs.ixs{za bs:LR}(h:LEs za bs):za.length=bs.length/\∀(j:Nat) (r:SV),bs[j]?=some r->∃s,za[j]?=some s/\LE s r:=by
 induction h with
 |nil=>exact⟨rfl,λj r h=>by simp at h⟩
 |cons h t b=>
  refine⟨by simp[b.1],λj r a=>?_⟩
  cases j with
  |zero=>simp at a;subst a;exact⟨_,rfl,h⟩
  |succ j=>simpa using b.2 j r (by simpa using a)
inductive Rows:LN->LN->Prop
 |nil:Rows [] []
 |cons {x y:LR} {xs ys:LN} (h:LEs x y) (t:Rows xs ys):Rows (x::xs) (y::ys)
def Rows.refl:∀{xs:LN},Rows xs xs
 |[]=>.nil
 |_::_=>.cons .refl .refl
def Rows.C{a:LR}{us bs:LN}(t:Rows us bs):Rows (a::us) (a::bs):=.cons .refl t
variable{ys:LN}
def Rows.app{xs us vs:LN}(h:Rows xs ys)(k:Rows us vs):Rows (xs++us) (ys++vs):=by
 induction h with
 |nil=>exact k
 |cons h t a=>exact .cons h a
def Rows.ix{xs:LN}(h:Rows xs ys):xs.length=ys.length/\∀(i:Nat) y,ys[i]?=some y->∃x,xs[i]?=some x/\LEs x y:=by
 induction h with
 |nil=>exact⟨rfl,λi y h=>by simp at h⟩
 |cons h t b=>
  refine⟨by simp[b.1],λi y a=>?_⟩
  cases i with
  |zero=>simp at a;subst a;exact⟨_,rfl,h⟩
  |succ i=>simpa using b.2 i y (by simpa using a)
def ze8(g:Nat){T:TypeId}{sz:Nat}{xs:LN}(q:zO O.M g=some (.garr T sz xs))(h:Rows xs ys):Sub O ⟨O.L,qL O.M g (.garr T sz ys),O.nk,O.nt,O.n0⟩:=by
 refine zvA g q λS Pm Z w ⟨v,cells,k,l,m,n,o,p⟩=>⟨v,cells,k,by rw[←h.ix.1];exact l,by rw[←h.ix.1];exact m,n,λy e=>?_,λi j y s e A=>?_⟩
 .obtain⟨i,hi⟩:=JE.1 e;obtain⟨x,d,a⟩:=h.ix.2 i y hi;rw[←a.ixs.1];exact o x (Xf d)
 obtain⟨x,d,a⟩:=h.ix.2 i y e;obtain⟨s',b,z⟩:=a.ixs.2 j s A;obtain⟨u,B,t⟩:=p i j x s' d b;exact⟨u,B,z _ _ _ _ _ t⟩
def law_walk'{args:LR}{vs:LA}{w:World}(h:kL P f args [] (bl true) [])(k:∀S Pm:LI,(∀b,¬S b)->(∀b,¬Pm b)->Gs S Pm (λ_=>none) w args vs)(d:∀g v,GL g v->w.cell? ⟨g,0,none⟩=some v:=by intro _ _ h;cases h):
  Calls P f vs.toArray w λe w'=>e=.returned (.bool true)/\RowKit.Grown w w'/\RowKit.Below w.heap.size w w':=by
 refine(h.2 (λ_=>False) (λ_=>none) w vs (λ_ h=>h.elim) (qu (λ_ h=>h.elim) d) (λ_ _=>rfl) (k _ _ (λb j=>j.elim id zK) (λb=>zK))).mono ?_
 rintro e w' ⟨v,Z',rfl,a,_,l⟩
 refine⟨by rw[l.val_inv],⟨⟨a.os,a.output.1,λi hi=>?_⟩,a.output.2,a.size⟩,⟨a.os,a.tape,a.output.1,a.size,λi hi=>a.block i hi zK⟩⟩;rw[a.block i hi zK]
 cases w.heap[i]? with
 |none=>rfl
 |some o=>cases o <;> simp
def Gs.val{S Pm:LI}{Z:zh}{w:World}{v:Value}{a:LR}{vs:LA}(h:Gs S Pm Z w a vs):Gs S Pm Z w (.val v::a) (v::vs):=.cons (.d _ _ (.val v)) h
def r64{n:Int}(h:(Lit.int .i64 n).wf=true):R64 n:=by
 simp only[Lit.wf,XF,decide_eq_true_eq]at h;exact h
def zrp(P:Program)(I:LS):Nat->Code->(St->Prop)->St->LH->Prop
 |0,_,J,O,_=>J O
 |n+1,.seq x y,J,O,Q=>js P I x O λe O=>(match e with
  |.normal=>zrp P I n y J O Q
  |.exit id=>Q (.exit id) O
  |.ret=>Q .ret O)
 |_+1,_,_,_,_=>False
def znK:Nat->Code->Code
 |0,c=>c
 |n+1,.seq _ y=>znK n y
 |_+1,c=>c
def zaz(P:Program)(c:Code)(O:St)(Q:LH):Prop:=∀(E:Env) (Z:zh) (a:Act) (w:World),Rel E O Z a w->c.wp P (u1 E Q) a w
variable{Q:LH}
def zaz.vc(hT:TOK P I)(a:P.follows .mixedOrders=true)(h:js P I c O Q):zaz P c O Q:=
 λ_ _ _ _ b=>kR hT a c b h
def znL{P:Program}{I:LS}(hT:TOK P I)(g:P.follows .mixedOrders=true){J:St->Prop}{Q:LH}:∀(n:Nat) (c:Code) {O:St},
  zrp P I n c J O Q->(∀O,J O->zaz P (znK n c) O Q)->zaz P c O Q
 |0,_,_,h,hJ=>hJ _ h
 |n+1,.seq x y,O,h,hJ=>λE Z a w l=>by
  refine wp_seq (Code.wp_mono (λe j w' b=>?_) (kR hT g x l h))
  cases e with
  |normal=>obtain⟨O',Z',k,d⟩:=b;exact znL hT g n y k hJ E Z' j w' d
  |exit id=>exact b
  |ret=>exact b
  |_=>exact b.elim
 |_+1,.skip,_,h,_=>h.elim
 |_+1,.region ..,_,h,_=>h.elim
 |_+1,.cond ..,_,h,_=>h.elim
 |_+1,.block ..,_,h,_=>h.elim
 |_+1,.loop ..,_,h,_=>h.elim
 |_+1,.rangeFunc ..,_,h,_=>h.elim
 |_+1,.exit ..,_,h,_=>h.elim
 |_+1,.scope ..,_,h,_=>h.elim
 |_+1,.label ..,_,h,_=>h.elim
 |_+1,.goto ..,_,h,_=>h.elim
 |_+1,.ret,_,h,_=>h.elim
 |_+1,.refuse ..,_,h,_=>h.elim
def zaz.cut(hT:TOK P I)(e:P.follows .mixedOrders=true)(n:Nat){ι:Type}(S:ι->St)(Vd:ι->Prop)(h:zrp P I n c (λO=>∃i,Vd i/\Sub O (S i)) O Q)(d:∀i,Vd i->zaz P (znK n c) (S i) Q):zaz P c O Q:=
 znL hT e n c h λ_ ⟨i,hi,j⟩ E Z a w g=>by
  obtain⟨Z',b⟩:=j E Z a w g;exact d i hi E Z' a w b
def zby(hT:TOK P I){args:LR}(x:P.funcs[f]?=some fn)(g:fn.body=some c)(C:(fn.name== "runtime.NumGoroutine")=false) (j:Nat.ble args.length fn.ntmps=true)
  (h:zaz P c ⟨qG 0 args,[],0,fn.ntmps,0⟩ (endV I fn.results.toList r)):kL P f args [] r []:=by
 refine⟨⟨fn,x,C,by rw[g];rfl⟩,λKeep Z w vs _ o u t=>calls_of_wp x g ?_⟩;have p:=yU (nt:=fn.ntmps) o u t (Xw j);refine Code.wp_mono (λe q w' a=>?_) (h _ _ _ _ p)
 have n:∀O Z1,zaw O I fn.results.toList (λs=>LE (znr (zO O.M) s) r)->Rel ⟨w,Z,Keep,Own [] Z,[]⟩ O Z1 q w'->q.defers=[]/\∃v,(results fn q.tmps).run P w'=.ok v w'/\∃y Z',Ending.returned v=.returned y/\Stp (Own [] Z) (Own [] Z') Z Z' w w'/\
   zI Keep [] Z' w'/\G (λb=>Keep b∨Own [] Z' b) (Own [] Z') Z' w' r y:=by
  intro O Z1 a d;obtain⟨s,j,A⟩:=jj hT a;obtain⟨v,z,t⟩:=A d;have l:=d.stp;refine⟨d.defers,v,z,v,Z1,rfl,⟨l.os,l.tape,l.output,l.size,l.block,λb g=>absurd g zK,l.rho⟩,qu d.mem.kp λ_ _ h=>d.mem.glc h,?_⟩;exact j _ _ _ _ _ (zpn (λk m h=>zu h) d.mem (λb g=>.inl (g.resolve_right zK)) t (λb g B=>(d.mem.old b g).2 (B.resolve_right zK)) (λ_=>zK))
 cases e with
 |normal=>obtain⟨O,Z1,a,d⟩:=a;exact n O Z1 a d
 |ret=>obtain⟨O,Z1,a,d⟩:=a;exact n O Z1 a d
 |exit id=>obtain⟨O,Z1,a,d⟩:=a;exact a.elim
 |_=>exact a.elim
abbrev Dig:=Fin 4294967296
def val:List Dig->Nat
 |[]=>0
 |d::r=>d.val+4294967296*val r
def zn(n:Nat):List Dig:=
 if h:n=0 then[] else⟨n%4294967296,Kq _ dC⟩::zn (n/4294967296)
termination_by n
decreasing_by exact Yx (Ki h) dC
def dig(xs:List Dig)(i:Nat):Nat:=match xs[i]? with
 |some d=>d.val
 |none=>0
def zed(i:Nat):0<4294967296^i:=Qb dC
def yZ(xs:List Dig)(i:Nat):dig xs i<4294967296:=by
 unfold dig;split
 .exact Fin.isLt _
 decide
variable{xs:List Dig}{i:Nat}
def zX{d:Dig}(h:xs[i]?=some d):dig xs i=d.val:=by simp[dig,h]
def za7(h:xs.length<=i):dig xs i=0:=by simp[dig,h]
def zfP(d:Dig)(r:List Dig):dig (d::r) 0=d.val:=rfl
def zar(d:Dig)(r:List Dig)(i:Nat):dig (d::r) (i+1)=dig r i:=by simp[dig]
def zz0(xs:List Dig)(k i:Nat):dig (xs.take k) i=if i<k then dig xs i else 0:=by
 by_cases h:i<k <;> simp[dig,XM,h]
def jY(xs:List Dig)(i j:Nat)(d:Dig):dig (xs.set i d) j=if i=j/\i<xs.length then d.val else dig xs j:=by
 simp only[dig,KB]
 by_cases h:i=j
 .subst h
  by_cases a:i<xs.length
  .simp[a]
  simp[a];
 simp[h]
def zt7(xs ys:List Dig)(i:Nat):dig (xs++ys) i=if i<xs.length then dig xs i else dig ys (i-xs.length):=by
 by_cases h:i<xs.length <;> simp[dig,X9,h]
def yV(n i:Nat):dig (List.replicate n (0:Dig)) i=0:=by
 simp only[dig,List.getElem?_replicate];by_cases h:i<n <;> simp[h]
def zpt:val []=0:=rfl
def vF(d:Dig)(r:List Dig):val (d::r)=d.val+4294967296*val r:=rfl
def zab:∀xs ys:List Dig,val (xs++ys)=val xs+4294967296^xs.length*val ys
 |[],ys=>by simp[val]
 |x::xs,ys=>by
  simp only[JK,val,zab xs ys,Xm,X4]
  grind
def jm:∀xs:List Dig,val xs<4294967296^xs.length
 |[]=>by simp[val]
 |x::xs=>by
  have h:=jm xs;have:=x.isLt;simp only[val,Xm,X4];omega
def kX(xs:List Dig)(i:Nat):val xs=val (xs.take i)+4294967296^i*val (xs.drop i):=by
 by_cases h:i<=xs.length
 .have:=zab (xs.take i) (xs.drop i);rw[Ku,Xp,Qp h]at this;exact this
 rw[Xi oM,KI oM];simp[val]
def qZ(xs:List Dig)(i:Nat):val (xs.take i)<4294967296^i:=by
 have h:=jm (xs.take i);have:(xs.take i).length<=i:=by simp;omega
 exact Xx h (XJ dC this)
def zG(xs:List Dig)(i:Nat):val (xs.drop i)=dig xs i+4294967296*val (xs.drop (i+1)):=by
 by_cases h:i<xs.length
 .rw[K8 h,vF,zX (Xb h)]
 rw[KI oM,KI oM,za7 oM];rfl
def zU(xs:List Dig)(i:Nat):val (xs.take (i+1))=val (xs.take i)+4294967296^i*dig xs i:=by
 have d:=kX xs i;have e:=kX xs (i+1);have g:=zG xs i;rw[X4]at e;rw[g]at d;generalize 4294967296^i=q at*;generalize val (xs.take (i+1))=a at*;generalize val (xs.take i)=b at*;generalize val (xs.drop (i+1))=c at*;have:q*(dig xs i+4294967296*c)=q*dig xs i+q*4294967296*c:=by rw[KP,KM]
 omega
def kY(h:xs.length<=i):val (xs.take i)=val xs:=by rw[Xi h]
def znd(xs:List Dig):val (xs.take 0)=0:=rfl
def kg(h:xs.length<=i):val (xs.drop i)=0:=by rw[KI h];rfl
def zas:∀(xs:List Dig) (i:Nat) (d:Dig),i<xs.length->val (xs.set i d)+4294967296^i*dig xs i=val xs+4294967296^i*d.val
 |[],i,d,h=>by simp at h
 |x::xs,0,d,_=>by simp only[List.set_cons_zero,val,zfP];omega
 |x::xs,i+1,d,h=>by
  have a:=zas xs i d (by simpa using h);simp only[J9,val,zar,X4]
  grind
def vG(xs:List Dig)(d:Dig):val (xs++[d])=val xs+4294967296^xs.length*d.val:=by
 rw[zab];simp[val]
def zbf(n:Nat):val (List.replicate n (0:Dig))=0:=by
 induction n with
 |zero=>rfl
 |succ n a=>rw[List.replicate_succ,vF,a];rfl
def yd:zn 0=[]:=by unfold zn;rfl
def zg9{n:Nat}(h:n≠0):zn n=⟨n%4294967296,Kq _ dC⟩::zn (n/4294967296):=by
 rw[zn];simp[h]
def zr(n:Nat):val (zn n)=n:=by
 induction n using Nat.strongRecOn with
 |_ n a=>
  by_cases h:n=0
  .subst h;rw[yd];rfl
  rw[zg9 h,vF,a _ (Yx (Ki h) dC)];show n%4294967296+_=n;omega
def zrs(xs:List Dig):Prop:=xs=[]∨dig xs (xs.length-1)≠0
def zfQ:∀{xs:List Dig},zrs xs->xs≠[]->val xs≠0
 |[],_,h=>absurd rfl h
 |[x],h,_=>by
  rcases h with h|h
  .cases h
  have:dig [x] ([x].length-1)=x.val:=rfl;simp only[val];omega
 |x::y::r,h,_=>by
  have a:zrs (y::r):=by
   rcases h with h|h
   .cases h
   right
   simp only[Xm,QD]at h ⊢;rw[zar]at h;exact h
  have:=zfQ a sI;rw[vF];omega
def zrt:∀{xs:List Dig},zrs xs->zn (val xs)=xs
 |[],_=>yd
 |x::r,h=>by
  have e:=zfQ h sI
  have d:zrs r:=by
   rcases h with h|h
   .cases h
   cases r with
   |nil=>exact .inl rfl
   |cons y r=>
    right
    simp only[Xm,QD]at h ⊢;rw[zar]at h;exact h
  have g:=x.isLt;rw[zg9 e];have a:val (x::r)%4294967296=x.val:=by rw[vF];omega
  have b:val (x::r)/4294967296=val r:=by rw[vF];omega
  rw[b,zrt d];congr 1;exact Fin.ext a
def zac(n:Nat):zrs (zn n):=by
 induction n using Nat.strongRecOn with
 |_ n a=>
  by_cases h:n=0
  .subst h;rw[yd];exact .inl rfl
  have a:=a _ (Yx (Ki h) (show 1<4294967296 by decide))
  right
  rw[zg9 h]
  rcases a with a|a
  .have e:=zr (n/4294967296);rw[a]at e ⊢;simp only[val]at e;show n%4294967296≠0;omega
  by_cases b:zn (n/4294967296)=[]
  .rw[b]at a;exact absurd (by rfl) a
  obtain⟨y,r,b⟩:=List.exists_cons_of_ne_nil b;rw[b]at a ⊢;simp only[Xm,QD]at a ⊢;rw[zar];exact a
def zlh{n:Nat}(h:n=0∨dig xs (n-1)≠0)(g:n<=xs.length)(l:∀i,n<=i->dig xs i=0):xs.take n=zn (val xs):=by
 have e:val xs=val (xs.take n):=by
  rw[kX xs n]
  have:val (xs.drop n)=0:=by
   have key:∀k,val (xs.drop (n+k))=0∨k<=xs.length:=λk=>by
    by_cases d:k<=xs.length
    .exact .inr d
    exact .inl (kg oM)
   have down:∀j,val (xs.drop (n+(xs.length-j)))=0:=by
    intro j
    induction j with
    |zero=>exact kg oM
    |succ j b=>
     by_cases m:j<xs.length
     .rw[zG,l _ oM,show n+(xs.length-(j+1))+1=n+(xs.length-j) by omega,b]
     rw[show n+(xs.length-(j+1))=n+(xs.length-j) by omega];exact b
   have:=down xs.length
   simpa using this
  rw[this];simp
 rw[e,zrt]
 by_cases a:n=0
 .subst a;exact .inl rfl
 right
 rw[Xp,Qp g,zz0,Xe oM];exact h.resolve_left a
def jU{n k:Nat}(h:n<4294967296^k):(zn n).length<=k:=by
 induction k generalizing n with
 |zero=>
   have:n=0:=by simpa using h
   subst this;rw[yd];simp
 |succ k b=>
  by_cases a:n=0
  .subst a;rw[yd];simp
  rw[zg9 a,Xm]
  have:n/4294967296<4294967296^k:=by
   rw[X3 dC];rwa [X4]at h
  have:=b this;omega
def zdc{n k:Nat}(h:(zn n).length<=k):n<4294967296^k:=by
 have:=jm (zn n);rw[zr]at this;exact Xx this (XJ dC h)
def zL(xs:List Dig):(zn (val xs)).length<=xs.length:=jU (jm xs)
def yL{n:Nat}:zn n=[]↔n=0:=by
 constructor
 .intro h;have:=zr n;rw[h]at this;exact this.symm
 rintro rfl;exact yd
def jL{n:Nat}:0<(zn n).length↔n≠0:=by
 rw[JW,Ne,yL]
def zpu{n:Nat}(h:n≠0):4294967296^((zn n).length-1)<=n:=by
 rcases Kf n (4294967296^((zn n).length-1)) with a|a
 .have:=jU a;have:=jL.2 h;omega
 exact a
def qw{m n:Nat}(h:m<=n):(zn m).length<=(zn n).length:=jU (Qi h (zdc (Xj _)))
def zee{xs ys:List Dig}{k:Nat}(h:∀i,k<=i->dig xs i=dig ys i):val (xs.drop k)=val (ys.drop k):=by
 have down:∀j,∀a,k<=a->max xs.length ys.length<=a+j->val (xs.drop a)=val (ys.drop a):=by
  intro j
  induction j with
  |zero=>intro a _ b;rw[kg oM,kg oM]
  |succ j d=>
   intro a b e;rw[zG,zG ys,h a b,d (a+1) oM oM]
 exact down (max xs.length ys.length) k (Xj _) oM
def znM{ys:List Dig}(h:∀i,dig xs i=dig ys i):val xs=val ys:=by
 have:=zee (k:=0) (xs:=xs) (ys:=ys) (λi _=>h i)
 simpa using this
def zDK(xs:List Dig)(i:Nat):dig xs i=val xs/4294967296^i%4294967296:=by
 have a:=kX xs i;have b:=qZ xs i;have d:=zG xs i;have g:=yZ xs i
 have e:val xs/4294967296^i=val (xs.drop i):=by
  rw[a,Q6,QJ (zed i),Kr b,XX]
 rw[e,d];omega
def zli(xs:List Dig)(i:Nat):val (xs.drop i)=val xs/4294967296^i:=by
 have a:=kX xs i;have b:=qZ xs i;rw[a,Q6,QJ (zed i),Kr b,XX]
def zru(xs:List Dig)(i:Nat):val (xs.take i)=val xs%4294967296^i:=by
 have a:=kX xs i;have b:=qZ xs i;rw[a,Ye,XB b]
def dof(n:Nat):Dig:=⟨n%4294967296,Kq _ dC⟩
def kA(n:Nat):(dof n).val=n%4294967296:=rfl
def kD(n:Nat):Nat:=if n=0 then 0 else n.log2+1
def zef(n:Nat):n<2^kD n:=by
 unfold kD;split
 .subst_vars;decide
 exact Nat.lt_log2_self
def zcu{n:Nat}(h:n≠0):2^(kD n-1)<=n:=by
 unfold kD;rw[Xc h];exact Nat.log2_self_le h
def zha{n k:Nat}(e:n<2^k)(g:n≠0)(h:2^(k-1)<=n):kD n=k:=by
 have a:=zef n;have b:=zcu g;have c:2^(kD n-1)<2^k:=Qi b e;have d:2^(k-1)<2^kD n:=Qi h a;have c:=(QM (by decide:1<2)).1 c;have d:=(QM (by decide:1<2)).1 d;have:0<kD n:=by unfold kD;rw[Xc g];omega
 have:k≠0:=by rintro rfl;simp at e;exact g e
 omega
def zt8:kD 0=0:=rfl
def zcv{n:Nat}:0<kD n↔n≠0:=by
 unfold kD;split <;> omega
def zbA(k:Nat):4294967296^k=2^(32*k):=by rw[show 4294967296=2^32 by decide,←Nat.pow_mul]
def zxD{n:Nat}(h:2<=n):n.log2=(n/2).log2+1:=by rw[Nat.log2_def,Xe h]
def zt9{n:Nat}(h:n≠0):kD n=kD (n/2)+1:=by
 unfold kD;rw[Xc h]
 by_cases a:n/2=0
 .rw[Xe a];have:n=1:=oM;subst this;rfl
 rw[Xc a,zxD oM]
def zcw(a:dig xs (xs.length-1)≠0):kD (val xs)=32*(xs.length-1)+kD (dig xs (xs.length-1)):=by
 have j:0<xs.length:=by
  rcases KC xs.length with h|h
  .rw[XQ.1 h]at a;exact absurd rfl a
  exact h
 have b:=kX xs (xs.length-1);have e:=qZ xs (xs.length-1);have d:=zG xs (xs.length-1);rw[show xs.length-1+1=xs.length by omega,kg (Xj _),Ky,XX]at d;rw[d]at b;generalize dig xs (xs.length-1)=t at*;have p1:=zef t;have g:=zcu a;rw[zbA]at b e;have p0:0<2^(32*(xs.length-1)):=Qb dC;have np:0<kD t:=zcv.2 a;refine zha ?_ ?_ ?_
 .rw[Kl];have:2^(32*(xs.length-1))*(t+1)<=2^(32*(xs.length-1))*2^kD t:=Kn _ p1;rw[KP,Jq]at this;omega
 .have:2^(32*(xs.length-1))*1<=2^(32*(xs.length-1))*t:=Kn _ oM;omega
 rw[show 32*(xs.length-1)+kD t-1=32*(xs.length-1)+(kD t-1) by omega,Kl];have:2^(32*(xs.length-1))*2^(kD t-1)<=2^(32*(xs.length-1))*t:=Kn _ g;omega
def zeg{xs:List Dig}{N:Nat}(h:∀j,j<xs.length->dig xs j=N/4294967296^j%4294967296):val xs=N%4294967296^xs.length:=by
 have key:∀i,i<=xs.length->val (xs.take i)=N%4294967296^i:=by
  intro i
  induction i with
  |zero=>intro _;rw[JA,Nat.mod_one];rfl
  |succ i a=>
   intro hi;rw[zU,a oM,h i oM,X4,Nat.mod_mul]
 have:=key xs.length (Xj _)
 rwa [Kc]at this
def zvB(xs:List Dig)(w s j:Nat)(b:s<32):val xs/2^(32*w+s)/4294967296^j%4294967296=(dig xs (w+j+1)*4294967296+dig xs (w+j))/2^s%4294967296:=by
 have e:val xs/2^(32*w+s)/4294967296^j=val (xs.drop (w+j))/2^s:=by
  rw[zli,Yw,Yw];congr 1;rw[zbA,zbA,←Kl,←Kl];congr 1;omega
 rw[e,zG,zG];generalize val (xs.drop (w+j+1+1))=R;generalize dig xs (w+j+1)=x;generalize dig xs (w+j)=y;have a:2^s*2^(32-s)=4294967296:=by rw[←Kl,show s+(32-s)=32 by omega]
 have:y+4294967296*(x+4294967296*R)=(x*4294967296+y)+2^s*(2^(32-s)*4294967296*R):=by
  rw[show 2^s*(2^(32-s)*4294967296*R)=(2^s*2^(32-s))*4294967296*R by simp only[KM],a];omega
 rw[this,Nat.add_mul_div_left _ _ (Qb dC)];rw[show 2^(32-s)*4294967296*R=4294967296*(2^(32-s)*R) by rw[KD (2^(32-s)),KM],Ye]
end
open Go.Proofs
def dgE(d:Dig):LR:=[.val (.int .u32 (d.val:Int))]
abbrev u32(n:Int):SV:=.val (.int .u32 n)
abbrev u64(n:Int):SV:=.val (.int .u64 n)
abbrev qC(xs:List Dig):Mem:=.arr 148 dgE 1 xs
def qW(xs:List Dig):zgN (qC xs):=λ_ _=>rfl
def qM(xs:List Dig):zj4 (qC xs):=λ_ _=>rfl
def zlj(e:Int):IntKind.u32.wrap e=e%4294967296:=rfl
def yr(e:Int):IntKind.u64.wrap e=e%18446744073709551616:=rfl
def ziy(d:Dig):[d].length=1/\1<=281474976710656/\1*1<=16777216/\0<1/\∀x∈[d],(dgE x).length=1/\yc (dgE x)=true/\yf.flats (dgE x)=true:=
 ⟨rfl,dC,dC,dC,λ_ _=>⟨rfl,rfl,rfl⟩⟩
def zfR:([]:List Dig).length=0/\0<=281474976710656/\0*1<=16777216/\0<1/\∀x∈([]:List Dig),(dgE x).length=1/\yc (dgE x)=true/\yf.flats (dgE x)=true:=
 ⟨rfl,dC,dC,dC,λ_ _=>⟨rfl,rfl,rfl⟩⟩
def ziz{xs ys:List Dig}(h:xs.length+ys.length<=2000000000):((xs.length+ys.length:Int)*(4:Nat)<=140737488355328/\xs.length+ys.length<=281474976710656/\0<1/\∀x∈ys,(dgE x).length=1):=
 ⟨oM,oM,dC,λ_ _=>rfl⟩
def zhb(a b:Nat):Int:=if a<b then-1 else if b<a then 1 else 0
def ze9{a b:Nat}:zhb a b<0↔a<b:=by
 unfold zhb;split
 .simp_all
 split <;> simp_all
def zvC{a b:Nat}:0<zhb a b↔b<a:=by
 unfold zhb;split
 .simp;omega
 split <;> simp_all
def jM(a:List Dig)(t:a.length<=1000000000):CG0 322 [.sl dgE a] [] (.own 0) [(0,qC (zn (val a)))]:=by
 refine qf tok mix func322 rfl rfl rfl λs=>?_;refine⟨Nat,λn=>⟨[(3,i64 n),(0,.sl dgE a)],[],0,34,0⟩,λn=>n<=a.length/\∀i,n<=i->dig a i=0,λn=>n,a.length,?_,?_,?_⟩
 .exact⟨Xj _,λi h=>za7 h⟩
 .exact zB []
 rintro n ⟨g,d⟩
 have post:∀(n:Nat),n<=a.length->(∀i,n<=i->dig a i=0)->(n=0∨dig a (n-1)≠0)->zn (val a)=a.take n:=λn g d k=>(zlh k g d).symm
 refine⟨λk=>?_,λk=>?_⟩
 .refine wa<|wb λx j=>?_;refine⟨λq=>?_,λq=>?_⟩
  .refine wa<|⟨n-1,⟨oM,λi hi=>?_⟩,jv [] ⟨iR oM,rfl,tV⟩ trivial,oN⟩
   by_cases e:i=n-1
   .subst e;rw[show((n:Int)-1).toNat=n-1 by omega]at j;rw[zX j];omega
   exact d i oM
  have m:dig a (n-1)≠0:=by
   rw[show((n:Int)-1).toNat=n-1 by omega]at j;rw[zX j];omega
  rw[post n g d (.inr m)];refine⟨Dig,dgE,[],rfl,Ob.mk zfR ?_⟩;refine⟨Nat,λi=>⟨[(5,i64 i),(3,i64 n),(4,.own 0),(0,.sl dgE a)],[(0,qC (a.take i))],1,34,0⟩,λi=>i<=n,λi=>n-i,0,?_,?_,?_⟩
  .exact Xh _
  .exact zf [0]
  rintro i hi
  have hi:i<=n:=hi;refine⟨λp=>?_,λp=>?_⟩
  .refine wb λy o=>?_;refine⟨Dig,dgE,[y],rfl,Ob.mk (ziy y) ?_⟩;refine⟨_,rfl,Ob.mk (ziz (by simp;omega)) ?_⟩;refine wa ?_
   refine⟨i+1,by show i+1<=n;omega,kM [(0,some 2)] rfl rfl rfl ⟨rfl,rfl,rfl,rfl,tV⟩
    ⟨Xg (λl=>some (qC l)) (by rw[Xn,show a[i]?=some y from o];rfl),tV⟩,oN⟩
  have b:i=n:=by omega
  subst b;exact⟨some 0,.own _ rfl,rfl,λ_ _=>rfl⟩
 have m:n=0:=by omega
 rw[post n g d (.inl m)];refine⟨Dig,dgE,[],rfl,Ob.mk zfR ?_⟩;refine⟨Nat,λi=>⟨[(5,i64 i),(3,i64 n),(4,.own 0),(0,.sl dgE a)],[(0,qC (a.take i))],1,34,0⟩,λi=>i<=n,λi=>n-i,0,?_,?_,?_⟩
 .exact Xh _
 .exact zf [0]
 rintro i hi
 have hi:i<=n:=hi;refine⟨λp=>?_,λp=>?_⟩
 .refine wb λy o=>?_;refine⟨Dig,dgE,[y],rfl,Ob.mk (ziy y) ?_⟩;refine⟨_,rfl,Ob.mk (ziz (by simp;omega)) ?_⟩;refine wa ?_
  refine⟨i+1,by show i+1<=n;omega,kM [(0,some 2)] rfl rfl rfl ⟨rfl,rfl,rfl,rfl,tV⟩
   ⟨Xg (λl=>some (qC l)) (by rw[Xn,show a[i]?=some y from o];rfl),tV⟩,oN⟩
 have b:i=n:=by omega
 subst b;exact⟨some 0,.own _ rfl,rfl,λ_ _=>rfl⟩
def yM(a:List Dig)(i:Int)(hi:0<=i):CX 442 [.sl dgE a,i64 i] (u64 (dig a i.toNat)):=by
 refine zc func442<|Br.mk (λh=>?_) (λh=>?_)
 .omega
 intro e;refine⟨λb=>?_,λb=>?_⟩
 .exact ze (by rw[za7 oM];rfl)
 refine wb λx d=>?_;have:=x.isLt;exact wa<|ze (by rw[zX d])
def zbB{n:Nat}{e:Int}(h:e=n):((dof n).val:Int)=IntKind.u32.wrap e:=by rw[zlj,kA,h];omega
def zhc{a b:List Dig}{j:Nat}(h:∀i,j+1<=i->dig a i=dig b i)(n:dig a j<dig b j):val a<val b:=by
 have d:=kX a j;have e:=kX b j;have g:=qZ a j;have k:=zG a j;have l:=zG b j;have m:=zee h;have:val (a.drop j)+1<=val (b.drop j):=oM;have:=Kn (4294967296^j) this;rw[KP]at this;omega
def zz1(a b:List Dig)(s:a.length<=1000000000)(t:b.length<=1000000000):
  CX 443 [.sl dgE a,.sl dgE b] (i64 (zhb (val a) (val b))):=by
 refine zc func443 λo p=>Ar.fit (by simp only[zdN];omega)<|⟨Nat,λj=>⟨[(5,i64 ((j:Int)-1)),(0,.sl dgE a),(1,.sl dgE b)],[],0,30,0⟩,λj=>j<=1000000000/\∀i,j<=i->dig a i=dig b i,λj=>j,max a.length b.length,?_,?_,?_⟩
 .exact⟨oM,λi hi=>by rw[za7 oM,za7 oM]⟩
 .exact jv [] ⟨iR (by simp only[zdN];omega),rfl,rfl,tV⟩ trivial
 rintro j ⟨q,g⟩
 refine⟨λm=>?_,λm=>?_⟩
 .have e:((j:Int)-1).toNat=j-1:=by omega
  have d:∀i,j-1+1<=i->dig a i=dig b i:=λi hi=>g i oM
  refine wg (yM a _ oM)<|wg (yM b _ oM)<|⟨λh=>?_,λh=>?_⟩
  .have:=zhc d (by rw[e]at h;omega);exact ze (by rw[zhb,Xe this])
  refine wg (yM a _ oM)<|wg (yM b _ oM)<|⟨λk=>?_,λk=>?_⟩
  .have:=zhc (λi hi=>(d i hi).symm) (by rw[e]at k;omega);exact ze (by rw[zhb,Xc oM,Xe this])
  refine wa<|⟨j-1,⟨oM,λi hi=>?_⟩,jv [] ⟨iR oM,rfl,rfl,tV⟩ trivial,oN⟩
  by_cases l:i=j-1
  .subst l;rw[e]at h k;omega
  exact g i oM
 have n:j=0:=by omega
 subst n;have:=znM λi=>g i (Xh _)
 exact ze (by rw[zhb,Xc oM,Xc oM])
def zGD(a b:List Dig)(t:a.length<=900000000)(u:b.length<=900000000):
  CG0 379 [.sl dgE a,.sl dgE b] [] (.own 0) [(0,qC (zn (val a+val b)))]:=by
 refine qf tok mix func379 rfl rfl rfl<|⟨Dig,dgE,[],rfl,Ob.mk zfR ?_⟩
 refine⟨Nat×List Dig×Nat,λq=>⟨[(7,i64 q.1),(6,u64 q.2.2),(5,.own 0),(0,.sl dgE a),(1,.sl dgE b)],[(0,qC q.2.1)],1,42,0⟩,
  λq=>q.1<=max a.length b.length/\q.2.1.length=q.1/\q.2.2<=1/\val q.2.1+4294967296^q.1*q.2.2=val (a.take q.1)+val (b.take q.1),λq=>max a.length b.length-q.1,(0,[],0),?_,?_,?_⟩
 .exact⟨Xh _,rfl,Xh _,rfl⟩
 .exact zf [0]
 rintro⟨i,out,c⟩ ⟨j,d,k,h⟩
 dsimp only at j d k h;intro l m;refine⟨λg=>?_,λg=>?_⟩
 .simp only[zdN]at g;have o:=yZ a i;have s:=yZ b i;refine wg (yM a _ oM)<|wg (yM b _ oM) ?_;simp only[XU];(iterate 2 refine wa ?_);refine Ar.wrap<|⟨Dig,dgE,[dof (dig a i+dig b i+c)],Xg (λn=>[u32 n]) (zbB oM),Ob.mk (ziy _) ?_⟩;refine⟨_,rfl,Ob.mk (ziz (by simp;omega)) ?_⟩;refine wb1<|wa ?_
  refine⟨(i+1,out++[dof (dig a i+dig b i+c)],(dig a i+dig b i+c)/4294967296),⟨oN,by simp[d],oN,?_⟩,
   zQ [2] ⟨rfl,Xg (λn=>some (u64 n)) oN,rfl,rfl,rfl,tV⟩ ⟨rfl,tV⟩,oN⟩
  dsimp only;rw[vG,d,kA,zU,zU,X4];have e:=Kh (dig a i+dig b i+c) 4294967296;generalize (dig a i+dig b i+c)/4294967296=x at*;generalize (dig a i+dig b i+c)%4294967296=y at*;generalize 4294967296^i=p at*
  grind
 simp only[zdN]at g;have hi:i=max a.length b.length:=oM;refine Ar.wrap<|⟨Dig,dgE,[dof c],Xg (λn=>[u32 n]) (zbB rfl),Ob.mk (ziy _) ?_⟩;refine⟨_,rfl,Ob.mk (ziz (by simp;omega)) ?_⟩;refine zb.fresh _ _ (jM _ (by simp;omega)) rfl (qW _) (.inr (qM _))<|⟨some 3,.own _ rfl,?_,λ_ _=>rfl⟩
 have e:val (out++[dof c])=val a+val b:=by
  rw[vG,d,kA,XB oM,h,kY oM,kY oM]
 rw[←e];rfl
def uM(a:List Dig)(b:a.length<=1000000000):CX 322 [.sl dgE a] (.sl dgE (zn (val a))):=
 (jM a b).plain rfl
def zkc(a b:List Dig)(d:a.length<=900000000)(e:b.length<=900000000):
  CX 379 [.sl dgE a,.sl dgE b] (.sl dgE (zn (val a+val b))):=(zGD a b d e).plain rfl
def zz2(a b:List Dig)(D:a.length<=900000000)(E:b.length<=900000000):
  CG0 380 [.sl dgE a,.sl dgE b] [] (.tup [.own 0,pr (val b<=val a)]) [(0,qC (zn (val a-val b)))]:=by
 refine qf tok mix func380 rfl rfl rfl<|wg (zz1 a b oM oM)<|⟨λh=>?_,λh=>?_⟩
 .have A:val a<val b:=ze9.1 h;refine⟨none,zlb (.cons (.nil rfl) (.cons (.le _ _ (zd oM) rfl) .nil)),?_⟩;show zn (val a-val b)=[];rw[YK oM];exact yd
 have g:val b<=val a:=Ja λt=>h (ze9.2 t)
 refine⟨Dig,dgE,[],rfl,Ob.mk zfR ?_⟩
 refine⟨Nat×List Dig×Nat,λ⟨i,out,c⟩=>⟨[(8,i64 i),(7,u64 c),(6,.own 0),(0,.sl dgE a),(1,.sl dgE b)],[(0,qC out)],1,41,0⟩,
  λq=>q.1<=a.length/\q.2.1.length=q.1/\q.2.2<=1/\val q.2.1+val (b.take q.1)=val (a.take q.1)+4294967296^q.1*q.2.2,λq=>a.length-q.1,(0,[],0),?_,?_,?_⟩
 .exact⟨Xh _,rfl,Xh _,rfl⟩
 .exact zf [0]
 rintro⟨i,out,c⟩ ⟨u,d,v,j⟩
 dsimp only at u d v j;intro z;refine⟨λw=>?_,λw=>?_⟩
 .have B:=yZ a i;have C:=yZ b i;refine wg (yM a _ oM) ?_;simp only[XU];refine wa<|wg (yM b _ oM) ?_;simp only[XU];(iterate 2 refine wa ?_);refine Ar.wrap<|⟨Dig,dgE,[dof (4294967296+dig a i-dig b i-c)],Xg (λn=>[u32 n]) (zbB oM),Ob.mk (ziy _) ?_⟩;refine⟨_,rfl,Ob.mk (ziz (by simp;omega)) ?_⟩;refine wb1<|Ar.fit (by simp only[Int.reducePow];omega)<|wa ?_
  refine⟨(i+1,out++[dof (4294967296+dig a i-dig b i-c)],1-(4294967296+dig a i-dig b i-c)/4294967296),⟨oN,by simp[d],oN,?_⟩,
   zQ [2] ⟨rfl,Xg (λn=>some (u64 n)) oN,rfl,rfl,rfl,tV⟩ ⟨rfl,tV⟩,oN⟩
  dsimp only;rw[vG,d,kA,zU,zU,X4];have e:(4294967296+dig a i-dig b i-c)%4294967296+dig b i+c=dig a i+4294967296*(1-(4294967296+dig a i-dig b i-c)/4294967296):=oM;generalize 1-(4294967296+dig a i-dig b i-c)/4294967296=x at*;generalize (4294967296+dig a i-dig b i-c)%4294967296=y at*;generalize 4294967296^i=p at*
  have m:p*y+p*dig b i+p*c=p*dig a i+p*4294967296*x:=by
   rw[←KP,←KP,e,KP,KM]
  omega
 have hi:i=a.length:=by omega
 refine zb.fresh _ _ (jM _ oM) rfl (qW _) (.inr (qM _))<|⟨some 1,zlb (.cons (.own _ rfl) (.cons (.le _ _ (zH g) rfl) .nil)),?_,λ_ _=>rfl⟩
 have e:val out=val a-val b:=by
  subst hi;have k:val (a.take a.length)=val a:=kY (Xj _);rw[k]at j;have l:=kX b a.length;have m:=jm a
  have o:val (b.drop a.length)=0:=by
   rcases KC (val (b.drop a.length)) with h|h
   .exact h
   have:=Kn (4294967296^a.length) h;omega
  have s:=jm out;rw[d]at s;rw[o]at l;have:c=0∨c=1:=oM
  rcases this with rfl|rfl <;> omega
 rw[←e];rfl
def zpv(a b:List Dig)(d:a.length<=900000000)(e:b.length<=900000000):
  CX 380 [.sl dgE a,.sl dgE b] (.tup [.sl dgE (zn (val a-val b)),pr (val b<=val a)]):=(zz2 a b d e).plain rfl
def zz3{x y c:Nat}(b:x<4294967296)(d:y<4294967296)(a:c<4294967296):x*y+c<=18446744069414584320:=by
 have:x*y<=4294967295*4294967295:=QE oM oM;omega
def zfa{x y:Nat}(a:x<4294967296)(b:y<4294967296):x*y<=18446744065119617025:=by
 have:x*y<=4294967295*4294967295:=QE oM oM;omega
def zrv{p q x y z c u v w o a r:Nat}(b:o+p*q*c=a+p*(x*w))(d:r+p*q*z=o+p*q*v)(e:4294967296*u+v=x*y+z+c):
  r+p*q*4294967296*u=a+p*(x*(w+q*y)):=by grind
def zz4(a:List Dig)(d:Nat)(z:a.length<=900000000)(k:d<4294967296):
  CG0 446 [.sl dgE a,u64 d] [] (.own 0) [(0,qC (zn (val a*d)))]:=by
 refine qf tok mix func446 rfl rfl rfl<|⟨Dig,dgE,[],rfl,Ob.mk zfR ?_⟩
 refine⟨Nat×List Dig×Nat,λ⟨i,out,c⟩=>⟨[(7,i64 i),(6,u64 c),(5,.own 0),(0,.sl dgE a),(1,u64 d)],[(0,qC out)],1,39,0⟩,
  λq=>q.1<=a.length/\q.2.1.length=q.1/\q.2.2<4294967296/\val q.2.1+4294967296^q.1*q.2.2=val (a.take q.1)*d,λq=>a.length-q.1,(0,[],0),?_,?_,?_⟩
 .exact⟨Xh _,rfl,dC,by simp[val]⟩
 .exact zf [0]
 rintro⟨i,out,c⟩ ⟨l,b,h,j⟩
 dsimp only at l b h j;intro o;refine⟨λm=>?_,λm=>?_⟩
 .refine wb λx(t:a[i]?=some x)=>?_;have dx:=zX t;have s:=zz3 x.isLt k h;have g:=zfa x.isLt k;have y:=x.isLt;(iterate 3 refine wa ?_);refine Ar.wrap<|⟨Dig,dgE,[dof (x.val*d+c)],Xg (λn=>[u32 n]) (zbB oM),Ob.mk (ziy _) ?_⟩;refine⟨_,rfl,Ob.mk (ziz (by simp;omega)) ?_⟩;refine wb1<|wa ?_
  refine⟨(i+1,out++[dof (x.val*d+c)],(x.val*d+c)/4294967296),⟨oN,by simp[b],oN,?_⟩,
   zQ [2] ⟨rfl,Xg (λn=>some (u64 n)) oN,rfl,rfl,rfl,tV⟩ ⟨rfl,tV⟩,oN⟩
  dsimp only;rw[vG,b,kA,zU,X4,dx];have e:=Kh (x.val*d+c) 4294967296;generalize (x.val*d+c)/4294967296=u at*;generalize (x.val*d+c)%4294967296=v at*;generalize 4294967296^i=p at*;generalize x.val=x at*;generalize val (a.take i)=w at*;clear s g
  grind
 have hi:i=a.length:=by omega
 refine Ar.wrap<|⟨Dig,dgE,[dof c],Xg (λn=>[u32 n]) (zbB rfl),Ob.mk (ziy _) ?_⟩;refine⟨_,rfl,Ob.mk (ziz (by simp;omega)) ?_⟩;refine zb.fresh _ _ (jM _ (by simp;omega)) rfl (qW _) (.inr (qM _))<|⟨some 3,.own _ rfl,?_,λ_ _=>rfl⟩
 have e:val (out++[dof c])=val a*d:=by
  rw[vG,b,kA,XB oM,j,kY oM]
 rw[←e];rfl
def zxE(a:List Dig)(d:Nat)(b:a.length<=900000000)(e:d<4294967296):
  CX 446 [.sl dgE a,u64 d] (.sl dgE (zn (val a*d))):=(zz4 a d b e).plain rfl
def zGE(a b:List Dig)(X:a.length<=400000000)(Y:b.length<=400000000):
  CG0 258 [.sl dgE a,.sl dgE b] [] (.own 0) [(0,qC (zn (val a*val b)))]:=by
 refine qf tok mix func258 rfl rfl rfl λK L=>?_;(iterate 2 refine wa ?_);refine⟨Dig,dgE,0,rfl,wb7 ?_⟩
 refine⟨Nat×List Dig,λ⟨i,out⟩=>⟨[(6,i64 i),(5,.own 0),(0,.sl dgE a),(1,.sl dgE b)],[(0,qC out)],1,69,0⟩,
  λq=>q.1<=a.length/\q.2.length=a.length+b.length+1/\val q.2=val (a.take q.1)*val b/\∀j,q.1+b.length<=j->dig q.2 j=0,λq=>a.length-q.1,(0,List.replicate (a.length+b.length+1) 0),?_,?_,?_⟩
 .exact⟨Xh _,sI,by simp[zbf,val],λj _=>yV _ _⟩
 .exact zt [0] ⟨Xg (λn=>some (qC (List.replicate n 0))) oM,tV⟩
 rintro⟨i,out0⟩ ⟨G,B,l,s⟩
 dsimp only at G B l s;intro M;refine⟨λH=>?_,λH=>?_⟩
 .refine⟨Nat×List Dig×Nat,λ⟨k,out,c⟩=>⟨[(8,i64 k),(7,u64 c),(6,i64 i),(5,.own 0),(0,.sl dgE a),(1,.sl dgE b)],[(0,qC out)],1,69,0⟩,
   λq=>q.1<=b.length/\q.2.1.length=a.length+b.length+1/\q.2.2<4294967296/\val q.2.1+4294967296^(i+q.1)*q.2.2=val out0+4294967296^i*(dig a i*val (b.take q.1))/\∀j,i+b.length<=j->dig q.2.1 j=0,λq=>b.length-q.1,(0,out0,0),?_,?_,?_⟩
  .exact⟨Xh _,B,oN,by simp[val],s⟩
  .exact zf [0]
  rintro⟨k,out,c⟩ ⟨E,m,A,d,g⟩
  dsimp only at E m A d g;intro N;refine⟨λF=>?_,λF=>?_⟩
  .refine wc<|wb λx(T:a[i]?=some x)=>?_;have dx:=zX T;have t:=x.isLt;refine wa<|wb λy(U:b[k]?=some y)=>?_;have dy:=zX U;have u:=y.isLt;refine wa ?_;have S:=zfa t u;(iterate 2 refine wa ?_);refine wb<|wb λz D=>?_;rw[show((i:Int)+k).toNat=i+k by omega]at D;have dz:=zX D;have V:=z.isLt;(iterate 4 refine wa ?_);refine Ar.wrap<|wb<|wb λW v=>?_
   refine⟨dof (x.val*y.val+z.val+c),Xg (λn=>[u32 n]) (zbB oM),?_⟩;refine wb1<|wa ?_
   refine⟨(k+1,out.set (i+k) (dof (x.val*y.val+z.val+c)),(x.val*y.val+z.val+c)/4294967296),⟨oN,by simp[m],oN,?_,?_⟩,
    zQ [0] ⟨rfl,Xg (λn=>some (u64 n)) oN,rfl,rfl,rfl,rfl,tV⟩ ⟨Xg (λn=>some (qC (out.set n _))) oM,tV⟩,oN⟩
   .dsimp only;have h:=zas out (i+k) (dof (x.val*y.val+z.val+c)) oM;rw[kA,dz]at h;rw[zU,dy,←KL i k 1,X4];rw[dx]at d ⊢;have e:=Kh (x.val*y.val+z.val+c) 4294967296;rw[Kl]at d h ⊢;exact zrv d h e
   intro j C;dsimp only;rw[jY,Xc oM];exact g j C
  have J:k=b.length:=by omega
  intro R;refine wa<|Ar.wrap<|wb<|wb λW v=>?_;refine⟨dof c,Xg (λn=>[u32 n]) (zbB rfl),?_⟩;refine wa ?_
  refine⟨(i+1,out.set (i+b.length) (dof c)),⟨oN,by simp[m],?_,?_⟩,
   zt [0] ⟨Xg (λn=>some (qC (out.set n _))) oM,tV⟩,oN⟩
  .dsimp only;have h:=zas out (i+b.length) (dof c) oM;rw[kA,g _ (Xj _),XB A]at h;rw[J,kY (Xj _),l]at d;rw[zU];generalize val (out.set (i+b.length) _)=r at*;generalize 4294967296^i=p at*;generalize 4294967296^(i+b.length)=q at*;generalize val (a.take i)=w at*;generalize dig a i=x at*;generalize val out=o at*;clear s g
   grind
  intro j C;dsimp only;rw[jY,Xc oM];exact g j oM
 have hi:i=a.length:=by omega
 refine zb.fresh _ _ (jM _ oM) rfl (qW _) (.inr (qM _))<|⟨some 1,.own _ rfl,?_,λ_ _=>rfl⟩;rw[hi,kY (Xj _)]at l;rw[←l];rfl
def zDL(a b:List Dig)(d:a.length<=400000000)(e:b.length<=400000000):
  CX 258 [.sl dgE a,.sl dgE b] (.sl dgE (zn (val a*val b))):=(zGE a b d e).plain rfl
def zhd(a:List Dig):kD (val a)<=32*a.length:=by
 by_cases h:val a=0
 .rw[h,zt8];omega
 have d:=zcu h;have b:=jm a;rw[zbA]at b;have:=(QM (by decide:1<2)).1 (Qi d b);omega
def znN(a:List Dig)(u:a.length<=900000000):CX 320 [.sl dgE a] (i64 (kD (val a))):=by
 refine zc func320<|wg (uM _ oM) λy=>?_;have j:=zL a;refine⟨λh=>?_,λh=>?_⟩
 .have:zn (val a)=[]:=XQ.1 oM;exact ze (by rw[yL.1 this];rfl)
 have b:zn (val a)≠[]:=λe=>h (by rw[e];rfl)
 have s:=(zac (val a)).resolve_left b;have htop:=zcw s;rw[zr]at htop;intro o;(iterate 2 refine wa ?_);intro p;refine wa<|wb λx k=>?_;rw[show(((zn (val a)).length:Int)-1).toNat=(zn (val a)).length-1 by omega]at k;have dx:=zX k;have d:=x.isLt;have v:=zhd a;refine⟨Nat×Nat,λ⟨n,t⟩=>⟨[(4,i64 n),(5,u32 t)],[],0,28,0⟩,λq=>q.2<4294967296/\q.1+kD q.2=kD (val a),λq=>q.2,(32*((zn (val a)).length-1),x.val),?_,?_,?_⟩
 .exact⟨d,by dsimp only;rw[htop,dx]⟩
 .exact jv [] ⟨iR oM,rfl,tV⟩ trivial
 rintro⟨n,t⟩ ⟨l,g⟩
 dsimp only at l g;refine⟨λm=>?_,λm=>?_⟩
 .have w:=zt9 (n:=t) oM;exact wa<|Dv.pos ⟨oM,oM,by show _<=(4294967295:Int);omega⟩<|⟨(n+1,t/2),⟨oN,oN⟩,jv [] ⟨rfl,Xg (λn=>some (u32 n)) oM,tV⟩ trivial,oN⟩
 have:t=0:=by omega
 subst this;exact ze (by rw[←g];rfl)
def zDM{p s x c u v w o M:Nat}(a:o+p*M*c=p*(s*w))(e:4294967296*u+v=x*s+c):
  o+p*M*v+p*(M*4294967296)*u=p*(s*(w+M*x)):=by grind
def zFL(a:List Dig)(n:Nat)(w:a.length<=800000000)(z:n<=4096):
  CG0 445 [.sl dgE a,i64 n] [] (.own 0) [(0,qC (zn (val a*2^n)))]:=by
 refine qf tok mix func445 rfl rfl rfl ?_;have h:2^(n%32)<=2^31:=XJ dC oM;have j:0<2^(n%32):=Qb dC;generalize k:2^(n%32)=s at*;refine Dv.pos ⟨oM,oM,by show _<=(9223372036854775807:Int);omega⟩<|⟨Dig,dgE,0,rfl,wb7 ?_⟩
 refine⟨Nat×List Dig×Nat,λ⟨i,out,c⟩=>⟨[(7,i64 i),(6,u64 c),(5,.own 0),(0,.sl dgE a),(1,i64 n)],[(0,qC out)],1,43,0⟩,
  λq=>q.1<=a.length/\q.2.1.length=n/32+q.1/\q.2.2<s/\val q.2.1+4294967296^(n/32)*4294967296^q.1*q.2.2=4294967296^(n/32)*(s*val (a.take q.1)),λq=>a.length-q.1,(0,List.replicate (n/32) 0,0),?_,?_,?_⟩
 .exact⟨Xh _,sI,j,by simp[zbf,val]⟩
 .exact zt [0] ⟨Xg (λn=>some (qC (List.replicate n 0))) oM,tV⟩
 rintro⟨i,out,c⟩ ⟨l,d,m,g⟩
 dsimp only at l d m g;intro p;refine⟨λo=>?_,λo=>?_⟩
 .refine wb λx(u:a[i]?=some x)=>?_;have dx:=zX u;have v:=x.isLt;refine wa<|Dv.pos ⟨oM,oM⟩<|wa<|wb12 ?_;have y:x.val*s<=4294967295*2^31:=QE oM h
  have b:(x.val:Int)*2^((n:Int)%32).toNat=((x.val*s:Nat):Int):=by
   rw[←k,show((n:Int)%32).toNat=n%32 by omega];simp
  have t:x.val*s+c<4294967296*s:=by
   have:x.val*s<=4294967295*s:=Xy _ oM;omega
  refine Ar.fit (by rw[b];omega)<|Ar.fit (by rw[b];omega)<|Ar.wrap<|⟨Dig,dgE,[dof (x.val*s+c)],Xg (λn=>[u32 n]) (zbB (by rw[b];omega)),Ob.mk (ziy _) ?_⟩;refine⟨_,rfl,Ob.mk (ziz (by simp;omega)) ?_⟩;refine wb1<|wa ?_
  refine⟨(i+1,out++[dof (x.val*s+c)],(x.val*s+c)/4294967296),⟨oN,by simp[d];omega,oN,?_⟩,
   zQ [2] ⟨rfl,Xg (λn=>some (u64 n)) (by rw[b];dsimp only;omega),rfl,rfl,rfl,tV⟩ ⟨rfl,tV⟩,oN⟩
  dsimp only;rw[vG,d,kA,zU,dx,X4,Kl];exact zDM g (Kh (x.val*s+c) 4294967296)
 have hi:i=a.length:=by omega
 refine Ar.wrap<|⟨Dig,dgE,[dof c],Xg (λn=>[u32 n]) (zbB rfl),Ob.mk (ziy _) ?_⟩;refine⟨_,rfl,Ob.mk (ziz (by simp;omega)) ?_⟩;refine zb.fresh _ _ (jM _ (by simp;omega)) rfl (qW _) (.inr (qM _))<|⟨some 3,.own _ rfl,?_,λ_ _=>rfl⟩
 have e:val (out++[dof c])=val a*2^n:=by
  rw[vG,d,kA,XB oM,Kl,g,kY oM,←k,zbA];rw[←KM,←Kl,show 32*(n/32)+n%32=n by omega,KD]
 rw[←e];rfl
def zGF(a:List Dig)(n:Nat)(b:a.length<=800000000)(d:n<=4096):
  CG0 386 [.sl dgE a,i64 n] [] (.own 0) [(0,qC (zn (val a*2^n)))]:=by
 refine qf tok mix func386 rfl rfl rfl<|Br.mk (λh=>?_) (λh=>absurd oM h);have e:zcf (n:Int) [4096]=n:=by simp only[zcf];omega
 exact zb.fresh _ _ (show CG0 _ [.sl dgE a,i64 (zcf (n:Int) [4096])] [] (.own 0) [(0,qC (zn (val a*2^n)))] by rw[e];exact zFL a n b d) rfl (qW _) (.inr (qM _))<|⟨some 0,.own _ rfl,rfl,λ_ _=>rfl⟩
def zGG(a:List Dig)(n:Nat)(t:a.length<=800000000)(z:n<=1000000000000):
  CG0 386 [.sl dgE a,i64 (-(n:Int))] [] (.own 0) [(0,qC (zn (val a/2^n)))]:=by
 refine qf tok mix func386 rfl rfl rfl<|Br.mk (λh=>?_) (λh=>?_)
 .have k:n=0:=by omega
  subst k
  refine zb.fresh _ _ (show CG0 _ [.sl dgE a,i64 (zcf (-((0:Nat):Int)) [4096])] [] (.own 0) [(0,qC (zn (val a/2^0)))] by
   have:=zFL a 0 t oM;rw[show zcf (-((0:Nat):Int)) [4096]=0 by decide,JA,Nat.div_one];rw[JA,Jq]at this
   exact this) rfl (qW _) (.inr (qM _)) ?_
  exact⟨some 0,.own _ rfl,rfl,λ_ _=>rfl⟩
 intro y;refine wa<|Br.mk (λp=>?_) (λp=>?_)
 .refine⟨Dig,dgE,[],rfl,Ob.mk zfR ?_⟩;refine⟨some 0,.own _ rfl,?_,λ_ _=>rfl⟩
  have e:val a/2^n=0:=by
   refine Kr (Xx (jm a) ?_);rw[zbA];exact XJ dC oM
  rw[e,yd];rfl
 refine⟨Dig,dgE,[],rfl,Ob.mk zfR ?_⟩;refine wa<|Dv.pos ⟨oM,oM,by show _<=(9223372036854775807:Int);omega⟩ ?_
 refine⟨Nat×List Dig,λ⟨i,out⟩=>⟨[(6,i64 ((n/32+i:Nat))),(5,.own 0),(0,.sl dgE a),(1,i64 (-(n:Int)))],[(0,qC out)],1,51,0⟩,
  λq=>q.1+n/32<=a.length/\q.2.length=q.1/\∀j,j<q.2.length->dig q.2 j=val a/2^n/4294967296^j%4294967296,λq=>a.length-q.1,(0,[]),?_,?_,?_⟩
 .exact⟨oN,rfl,λj h=>by simp at h⟩
 .exact zQ [0] ⟨iR oM,rfl,rfl,rfl,tV⟩ ⟨rfl,tV⟩
 rintro⟨i,out⟩ ⟨o,b,d⟩
 dsimp only at o b d;intro u;refine⟨λs=>?_,λs=>?_⟩
 .have w:=yZ a (n/32+i);have x:=yZ a (n/32+i+1);have v:(((n/32+i:Nat):Int)+1).toNat=n/32+i+1:=oM;refine wa<|wg (yM a _ oM) ?_;rw[v];refine wb1<|Ar.fit (by simp only[Int.reducePow];omega)<|wg (yM a _ oM) ?_;simp only[XU];refine Ar.fit (by simp only[Int.reducePow];omega)<|wa<|Dv.pos ⟨oM,oM⟩<|wa<|wb12<|Ar.wrap ?_;have m:((-(-(n:Int)))%32).toNat=n%32:=oM
  refine⟨Dig,dgE,[dof ((dig a (n/32+i+1)*4294967296+dig a (n/32+i))/2^(n%32))],Xg (λn=>[u32 n]) (zbB (by rw[m];simp)),Ob.mk (ziy _) ?_⟩;refine⟨_,rfl,Ob.mk (ziz (by simp;omega)) ?_⟩;refine wa ?_
  refine⟨(i+1,out++[dof ((dig a (n/32+i+1)*4294967296+dig a (n/32+i))/2^(n%32))]),⟨oN,by simp[b],?_⟩,
   zQ [2] ⟨iR oM,rfl,rfl,rfl,tV⟩ ⟨rfl,tV⟩,oN⟩
  intro j l;dsimp only at l ⊢;rw[Xr,X2]at l;rw[zt7]
  split
  .exact d j oM
  have g:j=i:=by omega
  subst g;have:=zvB a (n/32) (n%32) j oM;rw[show 32*(n/32)+n%32=n by omega]at this;rw[this,b,QT,zfP,kA]
 refine zb.fresh _ _ (jM _ oM) rfl (qW _) (.inr (qM _))<|⟨some 1,.own _ rfl,?_,λ_ _=>rfl⟩
 have e:val out=val a/2^n:=by
  rw[zeg d,XB];rw[X3 (Qb dC)];refine Xx (jm a) ?_;rw[zbA,zbA,←Kl];exact XJ dC oM
 rw[←e];rfl
def zvD(a:List Dig)(n:Nat)(b:a.length<=800000000)(d:n<=4096):
  CX 386 [.sl dgE a,i64 n] (.sl dgE (zn (val a*2^n))):=(zGF a n b d).plain rfl
def zz5{r b:List Dig}(j:dig b (b.length-1)≠0)(d:val r<4294967296*val b):
  val r/val b<=(dig r b.length*4294967296+dig r (b.length-1))/dig b (b.length-1):=by
 have v:0<b.length:=by
  rcases KC b.length with h|h
  .rw[XQ.1 h]at j;exact absurd rfl j
  exact h
 have l:=kX b (b.length-1);have g:=zG b (b.length-1);rw[show b.length-1+1=b.length by omega,kg (Xj _),Ky,XX]at g;have n:=kX r (b.length-1);have z:=qZ r (b.length-1);have e:=zG r (b.length-1);have k:=zG r b.length;rw[show b.length-1+1=b.length by omega]at e;have a:=jm b;have hpow:4294967296^b.length=4294967296^(b.length-1)*4294967296:=by rw[←X4];congr 1;omega
 have o:val (r.drop (b.length+1))=0:=by
  rw[zli];refine Kr (Nat.lt_trans d ?_);rw[X4,KD];exact KZ a dC
 rw[o,Ky,XX]at k;rw[k]at e;rw[g]at l;rw[e]at n;have w:=zed (b.length-1);generalize 4294967296^(b.length-1)=p at*;generalize dig b (b.length-1)=t at*;generalize dig r (b.length-1)=x at*;generalize dig r b.length=y at*;rw[JH oM];have s:=JZ (val r) (val b);generalize val r/val b=q at*;have u:q*(p*t)<=q*val b:=Kn _ oM
 have m:p*(q*t)<p*(x+4294967296*y+1):=by
  have:q*(p*t)=p*(q*t):=by rw[←KM,KD q p,KM]
  rw[KP p _ 1];omega
 have:=Yf m;omega
def zz6{a q:Nat}{e:Int}(d:e=a)(b:q<=a)(g:q<4294967296):∃m:Nat,m<4294967296/\q<=m/\zcf e [4294967295]=m:=by
 rcases Ju e 4294967295 with h|h
 .exact⟨a,oM,b,by simp only[zcf];rw[Int.min_eq_left h,d]⟩
 exact⟨4294967295,oM,oM,by simp only[zcf];rw[Int.min_eq_right h];simp⟩
def zz7(r b:List Dig)(D:r.length<=800000000)(B:b.length<=800000000)(ht:dig b (b.length-1)≠0)(j:val r<4294967296*val b):
  CG0 387 [.sl dgE r,.sl dgE b] [] (.tup [u64 ((val r/val b:Nat):Int),.own 0]) [(0,qC (zn (val r%val b)))]:=by
 refine qf tok mix func387 rfl rfl rfl ?_
 have C:0<b.length:=by
  rcases KC b.length with h|h
  .rw[XQ.1 h]at ht;exact absurd rfl ht
  exact h
 have g:0<val b:=by
  rcases KC (val b) with h|h
  .rw[h]at j;omega
  exact h
 have hest:=zz5 ht j;have w:val r/val b<4294967296:=by rw[X3 g];exact j
 have y:=yZ r b.length;have z:=yZ r (b.length-1);have s:=yZ b (b.length-1);intro u;refine wc<|wg (yM r _ oM) ?_;rw[XU];refine wb1<|Ar.fit (by simp only[Int.reducePow];omega)<|wa<|wg (yM r _ oM) ?_;rw[show((b.length:Int)-1).toNat=b.length-1 by omega];refine Ar.fit (by simp only[Int.reducePow];omega)<|wa<|wb λx q=>?_;rw[show((b.length:Int)-1).toNat=b.length-1 by omega]at q;have dx:=zX q;rw[dx]at ht hest s;refine wa ?_
 refine Dv.pos ⟨by simp only[Int.reducePow];omega,oM,by show _<=(18446744073709551615:Int);simp only[Int.reducePow];omega⟩ ?_;obtain⟨m,v,l,em⟩:=zz6 (e:=((dig r b.length:Nat)*2^32+(dig r (b.length-1):Nat):Int)/((x.val:Nat):Int)) sI hest w;clear hest
 refine zb.to _ (show CG0 _ [.sl dgE b,u64 (zcf (((dig r b.length:Nat)*2^32+(dig r (b.length-1):Nat):Int)/((x.val:Nat):Int)) [4294967295])] [] (.sl dgE (zn (val b*m))) [] by
  rw[em];exact zxE b m oM oM) rfl ?_
 refine⟨Nat,λd=>⟨[(8,u64 d),(9,.sl dgE (zn (val b*d))),(0,.sl dgE r),(1,.sl dgE b)],[],0,55,0⟩,λd=>val r/val b<=d/\d<4294967296,λd=>d,m,?_,?_,?_⟩
 .exact⟨l,oM⟩
 .exact jv [] ⟨Xg (λn=>some (u64 n)) em,rfl,rfl,rfl,tV⟩ trivial
 rintro d ⟨A,t⟩
 have p:(zn (val b*d)).length<=b.length+1:=jU (by
  rw[X4]
  exact Qn (jm b) t)
 refine wg (zz1 _ r oM oM) ?_;rw[zr];refine⟨λa=>?_,λa=>?_⟩
 .have a:=zvC.1 a
  have k:1<=d:=by
   rcases KC d with h|h
   .subst h;omega
   exact h
  have o:val r/val b<=d-1:=by
   have:val r/val b<d:=by rw[X3 g,KD];exact a
   omega
  refine wa<|wg (zpv _ b oM oM) ?_;rw[zr];refine⟨d-1,⟨o,oM⟩,jv [] ⟨Xg (λn=>some (u64 n)) oM,Xg (λn=>some (SV.sl dgE (zn n))) (show val b*d-val b=val b*(d-1) by rw[Nat.mul_sub,Jq]),rfl,rfl,tV⟩ trivial,oN⟩
 have a:val b*d<=val r:=Ja λh=>a (zvC.2 h)
 have k:d=val r/val b:=by
  have:d<=val r/val b:=by rw[JH g,KD];exact a
  omega
 refine zb.fresh _ _ (zz2 r _ oM oM) rfl (qW _) (.inr (qM _))<|⟨some 0,zlb (.cons (zbx (by rw[k])) (.cons (.own _ rfl) .nil)),?_,λ_ _=>rfl⟩
 have e:val r-val (zn (val b*d))=val r%val b:=by
  rw[zr,k];have:=Kh (val r) (val b);omega
 rw[←e];rfl
abbrev LB:=List Dig
end Go.Gs
