/- A function that is handed blocks, and leaves blocks, za many za it will. -/
import GoSem.Claim
import Derived.Test.YtakicgnbhdpknaaGreatDoorPAN
set_option maxRecDepth 100000
set_option maxHeartbeats 8000000
set_option linter.all false
namespace Go.Gs
open Proofs.Tryz
section
def endG(H:LS)(rs:List ResultVar)(r:SV)(M':LT)(e:Ex)(Z:St):Prop:=
 match e with
 |.exit _=>False
 |_=>∃Z',Sub Z Z'/\Z'.M=M'/\zbm Z' H rs λs=>LE s r
variable{P:Program}{H:LS}{f:FuncId}{fn:Func}{c:Code}{r:SV}
def uf(hT:TOK P H)(u:P.follows .mixedOrders=true){args:LR}{M M':LT}(t:P.funcs[f]?=some fn)(l:fn.body=some c)(o:(fn.name== "runtime.NumGoroutine")=false) (j:Nat.ble args.length fn.ntmps=true)
  (h:jw P H c ⟨jm 0 args,M,M.length,fn.ntmps,M.length⟩ (endG H fn.results.toList r M')):qg P f args M r M':=by
 refine v8 hT u t l o j h (Q':=λe Z=>(∀id,e≠.exit id)/\Z.M=M'/\zbm Z H fn.results.toList λs=>LE s r) (λe Z d=>?_) (λe Z d x=>?_) (λid Z d=>d.1 id rfl)
 .cases e with
  |exit id=>exact d.elim
  |normal=>obtain⟨Z',k,m,n⟩:=d;exact⟨Z',k,λ_=>by simp,m,n⟩
  |ret=>obtain⟨Z',k,m,n⟩:=d;exact⟨Z',k,λ_=>by simp,m,n⟩
 obtain⟨_,hM,d⟩:=d;obtain⟨s,j,k⟩:=jL hT d;refine⟨s,k,λ{E O a w v} q hW hρ0 p=>⟨O,?_,?_,?_⟩⟩
 .have g:=q.stp;rw[hM]at g;exact⟨g.os,g.tape,g.output,g.size,λb l o=>g.block b l λh=>o ((hW b).1 h),λb l=>(g.own b l).imp (hW b).1 id,g.rho⟩
 .have:=q.mem
  rwa [hM]at this
 rw[hM]at p;exact j _ _ _ _ _ p
def zCW{q:Int}(k:Nat)(b:k<=32):vr .and .i64 q (2^k-1)=q%2^k:=by
 have t:(2:Int)^k<=2^32:=by
  have:=XJ (show 0<2 by decide) b
  exact_mod_cast this
 have p:(1:Int)<=2^k:=by
  have:=Nat.one_le_two_pow (n:=k)
  exact_mod_cast this
 have s:(2:Nat)^k<=2^32:=XJ dC b;have hpn0:=Nat.one_le_two_pow (n:=k);have m:((2^k:Nat):Int)=(2:Int)^k:=by exact_mod_cast rfl
 have e:(BitVec.ofInt 64 q&&&BitVec.ofInt 64 (2^k-1)).toNat=(q%2^k).toNat:=by
  rw[BitVec.toNat_and]
  have d:(BitVec.ofInt 64 ((2:Int)^k-1)).toNat=2^k-1:=by
   rw[Qg];omega
  rw[d,JI,Qg];have o:((2:Int)^k) ∣ (2:Int)^64:=⟨2^(64-k),by rw[←Int.pow_add];congr 1;omega⟩;have g:(q%(2:Int)^64)%2^k=q%2^k:=Int.emod_emod_of_dvd q o;have h:=Kh q (show(2:Int)^64≠0 by decide);have a:=Kh q (show(2:Int)^k≠0 by omega)
  have j:(((q%(2:Int)^64).toNat%2^k:Nat):Int)=q%2^k:=by
   rw[Q1,m,Qx h,g]
  show(q%((2^64:Nat):Int)).toNat%2^k=_;have l:((2^64:Nat):Int)=(2:Int)^64:=dC;rw[l];omega
 show IntKind.i64.wrap ((BitVec.ofInt 64 q&&&BitVec.ofInt 64 (2^k-1)).toNat:Nat)=_;rw[e];have a:=Kh q (show(2:Int)^k≠0 by omega);have j:=Kd q (show(0:Int)<2^k by omega);rw[Qx a];generalize q%2^k=z at*;simp only[IntKind.wrap,IntKind.bits,IntKind.signed];simp;omega
variable{Z:St}
def zCX(e:Nat){m g:Mem}(y:zW Z.M e=some m)(A:∀(S Pm:LI) (O:zh) (w:World),jN S Pm O w e m->jN S Pm O w e g):
  Sub Z ⟨Z.L,qN Z.M e g,Z.nk,Z.nt,Z.n0⟩:=by
 intro E O a w d;refine⟨O,?_⟩;have hkeys:(qN Z.M e g).map (·.1)=Z.M.map (·.1):=za9;have j:∀b,Own (qN Z.M e g) O b->Own Z.M O b:=λb o=>zav hkeys.symm o
 have hown':∀b,Own Z.M O b->Own (qN Z.M e g) O b:=λb o=>zav hkeys o
 have eo:Own (qN Z.M e g) O=Own Z.M O:=funext λb=>propext ⟨j b,hown' b⟩
 refine⟨d.size,d.defers,λt s z=>?_,⟨λl n p=>?_,yO hkeys d.mem.keys,λl n B C v1 v2 b p k=>?_,λb o=>d.mem.old b (j b o),d.mem.kp,d.mem.glO j⟩,
  d.fresh,?_,d.keep,d.low⟩
 .show t<Z.nt/\G (λb=>E.Keep b∨Own (qN Z.M e g) O b) (Own (qN Z.M e g) O) O w s (a.tmps.getD t undef);rw[eo];exact d.regs t s z
 .show jN (λb=>E.Keep b∨Own (qN Z.M e g) O b) (Own (qN Z.M e g) O) O w l n;rw[eo]
  obtain⟨_,k⟩|k:=jO d.mem.keys _ p
  .exact d.mem.rel l n k
  cases k
  exact A _ _ _ _ (d.mem.rel e m (zA y))
 .have back:∀l n,(l,n)∈qN Z.M e g->∃g,(l,g)∈Z.M:=λl n h=>by
   obtain⟨_,k⟩|k:=jO d.mem.keys _ h
   .exact⟨n,k⟩
   cases k;exact⟨_,zA y⟩
  obtain⟨v,q⟩:=back _ _ p;obtain⟨x,u⟩:=back _ _ k;exact d.mem.apart l v B x v1 v2 b q u
 show Stp E.W0 (Own (qN Z.M e g) O) E.ρ0 O E.w0 w;rw[eo];exact d.stp
def LEs.ixs{za bs:LR}(h:LEs za bs):za.length=bs.length/\∀(j:Nat) (r:SV),bs[j]?=some r->∃s,za[j]?=some s/\LE s r:=by
 induction h with
 |nil=>exact⟨rfl,λj r h=>by simp at h⟩
 |cons h t b=>
  refine⟨by simp[b.1],λj r a=>?_⟩
  cases j with
  |zero=>simp at a;subst a;exact⟨_,rfl,h⟩
  |succ j=>simpa using b.2 j r (by simpa using a)
inductive Rows:LN->LN->Prop
 |nil:Rows [] []
 |cons {x y:LR} {xs ys:LN} (h:LEs x y) (t:Rows xs ys):Rows (x::xs) (y::ys)
def Rows.refl:∀{xs:LN},Rows xs xs
 |[]=>.nil
 |_::_=>.cons .refl .refl
def Rows.C{a:LR}{us bs:LN}(t:Rows us bs):Rows (a::us) (a::bs):=.cons .refl t
variable{ys:LN}
def Rows.app{xs us vs:LN}(h:Rows xs ys)(k:Rows us vs):Rows (xs++us) (ys++vs):=by
 induction h with
 |nil=>exact k
 |cons h t a=>exact .cons h a
def Rows.ix{xs:LN}(h:Rows xs ys):xs.length=ys.length/\∀(i:Nat) y,ys[i]?=some y->∃x,xs[i]?=some x/\LEs x y:=by
 induction h with
 |nil=>exact⟨rfl,λi y h=>by simp at h⟩
 |cons h t b=>
  refine⟨by simp[b.1],λi y a=>?_⟩
  cases i with
  |zero=>simp at a;subst a;exact⟨_,rfl,h⟩
  |succ i=>simpa using b.2 i y (by simpa using a)
def zeV(g:Nat){T:TypeId}{sz:Nat}{xs:LN}(q:zW Z.M g=some (.garr T sz xs))(h:Rows xs ys):Sub Z ⟨Z.L,qN Z.M g (.garr T sz ys),Z.nk,Z.nt,Z.n0⟩:=by
 refine zCX g q λS Pm O w ⟨v,cells,k,l,m,n,o,p⟩=>⟨v,cells,k,by rw[←h.ix.1];exact l,by rw[←h.ix.1];exact m,n,λy e=>?_,λi j y s e A=>?_⟩
 .obtain⟨i,hi⟩:=JA.1 e;obtain⟨x,d,a⟩:=h.ix.2 i y hi;rw[←a.ixs.1];exact o x (Xf d)
 obtain⟨x,d,a⟩:=h.ix.2 i y e;obtain⟨s',b,z⟩:=a.ixs.2 j s A;obtain⟨u,B,t⟩:=p i j x s' d b;exact⟨u,B,z _ _ _ _ _ t⟩
def law_walk'{args:LR}{vs:LA}{w:World}(h:qg P f args [] (bl true) [])(k:∀S Pm:LI,(∀b,¬S b)->(∀b,¬Pm b)->Gs S Pm (λ_=>none) w args vs)(d:∀g v,GL g v->w.cell? ⟨g,0,none⟩=some v:=by intro _ _ h;cases h):
  Calls P f vs.toArray w λe w'=>e=.returned (.bool true)/\RowKit.Grown w w'/\RowKit.Below w.heap.size w w':=by
 refine(h.2 (λ_=>False) (λ_=>none) w vs (λ_ h=>h.elim) (qr (λ_ h=>h.elim) d) (λ_ _=>rfl) (k _ _ (λb j=>j.elim id zN) (λb=>zN))).mono ?_
 rintro e w' ⟨v,O',rfl,a,_,l⟩
 refine⟨by rw[l.val_inv],⟨⟨a.os,a.output.1,λi hi=>?_⟩,a.output.2,a.size⟩,⟨a.os,a.tape,a.output.1,a.size,λi hi=>a.block i hi zN⟩⟩;rw[a.block i hi zN]
 cases w.heap[i]? with
 |none=>rfl
 |some o=>cases o <;> simp
def Gs.val{S Pm:LI}{O:zh}{w:World}{v:Value}{a:LR}{vs:LA}(h:Gs S Pm O w a vs):Gs S Pm O w (.val v::a) (v::vs):=.cons (.d _ _ (.val v)) h
def r64{n:Int}(h:(Lit.int .i64 n).wf=true):R64 n:=by
 simp only[Lit.wf,XE,decide_eq_true_eq]at h;exact h
def zzk(P:Program)(H:LS):Nat->Code->(St->Prop)->St->LH->Prop
 |0,_,J,Z,_=>J Z
 |n+1,.seq x y,J,Z,Q=>jw P H x Z λe Z=>(match e with
  |.normal=>zzk P H n y J Z Q
  |.exit id=>Q (.exit id) Z
  |.ret=>Q .ret Z)
 |_+1,_,_,_,_=>False
def zzl:Nat->Code->Code
 |0,c=>c
 |n+1,.seq _ y=>zzl n y
 |_+1,c=>c
def zdH(P:Program)(c:Code)(Z:St)(Q:LH):Prop:=∀(E:Env) (O:zh) (a:Act) (w:World),Rel E Z O a w->c.wp P (uY E Q) a w
variable{Q:LH}
def zdH.vc(hT:TOK P H)(a:P.follows .mixedOrders=true)(h:jw P H c Z Q):zdH P c Z Q:=
 λ_ _ _ _ b=>kU hT a c b h
def znl{P:Program}{H:LS}(hT:TOK P H)(g:P.follows .mixedOrders=true){J:St->Prop}{Q:LH}:∀(n:Nat) (c:Code) {Z:St},
  zzk P H n c J Z Q->(∀Z,J Z->zdH P (zzl n c) Z Q)->zdH P c Z Q
 |0,_,_,h,hJ=>hJ _ h
 |n+1,.seq x y,Z,h,hJ=>λE O a w l=>by
  refine wp_seq (Code.wp_mono (λe j w' b=>?_) (kU hT g x l h))
  cases e with
  |normal=>obtain⟨Z',O',k,d⟩:=b;exact znl hT g n y k hJ E O' j w' d
  |exit id=>exact b
  |ret=>exact b
  |_=>exact b.elim
 |_+1,.skip,_,h,_=>h.elim
 |_+1,.region ..,_,h,_=>h.elim
 |_+1,.cond ..,_,h,_=>h.elim
 |_+1,.block ..,_,h,_=>h.elim
 |_+1,.loop ..,_,h,_=>h.elim
 |_+1,.rangeFunc ..,_,h,_=>h.elim
 |_+1,.exit ..,_,h,_=>h.elim
 |_+1,.scope ..,_,h,_=>h.elim
 |_+1,.label ..,_,h,_=>h.elim
 |_+1,.goto ..,_,h,_=>h.elim
 |_+1,.ret,_,h,_=>h.elim
 |_+1,.refuse ..,_,h,_=>h.elim
def zdH.cut(hT:TOK P H)(e:P.follows .mixedOrders=true)(n:Nat){ι:Type}(S:ι->St)(I:ι->Prop)(h:zzk P H n c (λZ=>∃i,I i/\Sub Z (S i)) Z Q)(d:∀i,I i->zdH P (zzl n c) (S i) Q):zdH P c Z Q:=
 znl hT e n c h λ_ ⟨i,hi,j⟩ E O a w g=>by
  obtain⟨O',b⟩:=j E O a w g;exact d i hi E O' a w b
def zc2(hT:TOK P H){args:LR}(q:P.funcs[f]?=some fn)(g:fn.body=some c)(z:(fn.name== "runtime.NumGoroutine")=false) (j:Nat.ble args.length fn.ntmps=true)
  (h:zdH P c ⟨jm 0 args,[],0,fn.ntmps,0⟩ (endV H fn.results.toList r)):qg P f args [] r []:=by
 refine⟨⟨fn,q,z,by rw[g];rfl⟩,λKeep O w vs _ n hρ p=>calls_of_wp q g ?_⟩;have hrel:=vg (nt:=fn.ntmps) n hρ p (Xz j);refine Code.wp_mono (λe o w' a=>?_) (h _ _ _ _ hrel)
 have fin:∀Z O1,zbm Z H fn.results.toList (λs=>LE (zm3 (zW Z.M) s) r)->Rel ⟨w,O,Keep,Own [] O,[]⟩ Z O1 o w'->o.defers=[]/\∃v,(results fn o.tmps).run P w'=.ok v w'/\∃t O',Ending.returned v=.returned t/\Stp (Own [] O) (Own [] O') O O' w w'/\
   zJ Keep [] O' w'/\G (λb=>Keep b∨Own [] O' b) (Own [] O') O' w' r t:=by
  intro Z O1 a d;obtain⟨s,j,x⟩:=jL hT a;obtain⟨v,u,p⟩:=x d;have l:=d.stp;refine⟨d.defers,v,u,v,O1,rfl,⟨l.os,l.tape,l.output,l.size,l.block,λb g=>absurd g zN,l.rho⟩,qr d.mem.kp λ_ _ h=>d.mem.glc h,?_⟩;exact j _ _ _ _ _ (zoX (λk m h=>zA h) d.mem (λb g=>.inl (g.resolve_right zN)) p (λb g y=>(d.mem.old b g).2 (y.resolve_right zN)) (λ_=>zN))
 cases e with
 |normal=>obtain⟨Z,O1,a,d⟩:=a;exact fin Z O1 a d
 |ret=>obtain⟨Z,O1,a,d⟩:=a;exact fin Z O1 a d
 |exit id=>obtain⟨Z,O1,a,d⟩:=a;exact a.elim
 |_=>exact a.elim
abbrev Dig:=Fin 4294967296
def val:List Dig->Nat
 |[]=>0
 |d::r=>d.val+4294967296*val r
def zn(n:Nat):List Dig:=
 if h:n=0 then[] else⟨n%4294967296,Kn _ dC⟩::zn (n/4294967296)
termination_by n
decreasing_by exact Yr (Kg h) dC
def dig(xs:List Dig)(i:Nat):Nat:=match xs[i]? with
 |some d=>d.val
 |none=>0
def zd4(i:Nat):0<4294967296^i:=Qa dC
def yV(xs:List Dig)(i:Nat):dig xs i<4294967296:=by
 unfold dig;split
 .exact Fin.isLt _
 decide
variable{xs:List Dig}{i:Nat}
def zX{d:Dig}(h:xs[i]?=some d):dig xs i=d.val:=by simp[dig,h]
def za4(h:xs.length<=i):dig xs i=0:=by simp[dig,h]
def zfA(d:Dig)(r:List Dig):dig (d::r) 0=d.val:=rfl
def zaq(d:Dig)(r:List Dig)(i:Nat):dig (d::r) (i+1)=dig r i:=by simp[dig]
def zzo(xs:List Dig)(k i:Nat):dig (xs.take k) i=if i<k then dig xs i else 0:=by
 by_cases h:i<k <;> simp[dig,XK,h]
def jU(xs:List Dig)(i j:Nat)(d:Dig):dig (xs.set i d) j=if i=j/\i<xs.length then d.val else dig xs j:=by
 simp only[dig,KE]
 by_cases h:i=j
 .subst h
  by_cases a:i<xs.length
  .simp[a]
  simp[a];
 simp[h]
def ztC(xs ys:List Dig)(i:Nat):dig (xs++ys) i=if i<xs.length then dig xs i else dig ys (i-xs.length):=by
 by_cases h:i<xs.length <;> simp[dig,KY,h]
def yQ(n i:Nat):dig (List.replicate n (0:Dig)) i=0:=by
 simp only[dig,List.getElem?_replicate];by_cases h:i<n <;> simp[h]
def zo3:val []=0:=rfl
def vA(d:Dig)(r:List Dig):val (d::r)=d.val+4294967296*val r:=rfl
def v9:∀xs ys:List Dig,val (xs++ys)=val xs+4294967296^xs.length*val ys
 |[],ys=>by simp[val]
 |x::xs,ys=>by
  simp only[JG,val,v9 xs ys,Xn,X1]
  grind
def je:∀xs:List Dig,val xs<4294967296^xs.length
 |[]=>by simp[val]
 |x::xs=>by
  have h:=je xs;have:=x.isLt;simp only[val,Xn,X1];omega
def kT(xs:List Dig)(i:Nat):val xs=val (xs.take i)+4294967296^i*val (xs.drop i):=by
 by_cases h:i<=xs.length
 .have:=v9 (xs.take i) (xs.drop i);rw[Kr,Xo,Qn h]at this;exact this
 rw[Xi oM,KD oM];simp[val]
def qV(xs:List Dig)(i:Nat):val (xs.take i)<4294967296^i:=by
 have h:=je (xs.take i);have:(xs.take i).length<=i:=by simp;omega
 exact Xx h (XJ dC this)
def zG(xs:List Dig)(i:Nat):val (xs.drop i)=dig xs i+4294967296*val (xs.drop (i+1)):=by
 by_cases h:i<xs.length
 .rw[K6 h,vA,zX (Xb h)]
 rw[KD oM,KD oM,za4 oM];rfl
def zT(xs:List Dig)(i:Nat):val (xs.take (i+1))=val (xs.take i)+4294967296^i*dig xs i:=by
 have d:=kT xs i;have e:=kT xs (i+1);have g:=zG xs i;rw[X1]at e;rw[g]at d;generalize 4294967296^i=q at*;generalize val (xs.take (i+1))=a at*;generalize val (xs.take i)=b at*;generalize val (xs.drop (i+1))=c at*;have:q*(dig xs i+4294967296*c)=q*dig xs i+q*4294967296*c:=by rw[KL,KI]
 omega
def kV(h:xs.length<=i):val (xs.take i)=val xs:=by rw[Xi h]
def zmP(xs:List Dig):val (xs.take 0)=0:=rfl
def kg(h:xs.length<=i):val (xs.drop i)=0:=by rw[KD h];rfl
def zar:∀(xs:List Dig) (i:Nat) (d:Dig),i<xs.length->val (xs.set i d)+4294967296^i*dig xs i=val xs+4294967296^i*d.val
 |[],i,d,h=>by simp at h
 |x::xs,0,d,_=>by simp only[List.set_cons_zero,val,zfA];omega
 |x::xs,i+1,d,h=>by
  have a:=zar xs i d (by simpa using h);simp only[J3,val,zaq,X1]
  grind
def vB(xs:List Dig)(d:Dig):val (xs++[d])=val xs+4294967296^xs.length*d.val:=by
 rw[v9];simp[val]
def zbc(n:Nat):val (List.replicate n (0:Dig))=0:=by
 induction n with
 |zero=>rfl
 |succ n a=>rw[List.replicate_succ,vA,a];rfl
def j9:zn 0=[]:=by unfold zn;rfl
def zgS{n:Nat}(h:n≠0):zn n=⟨n%4294967296,Kn _ dC⟩::zn (n/4294967296):=by
 rw[zn];simp[h]
def zr(n:Nat):val (zn n)=n:=by
 induction n using Nat.strongRecOn with
 |_ n a=>
  by_cases h:n=0
  .subst h;rw[j9];rfl
  rw[zgS h,vA,a _ (Yr (Kg h) dC)];show n%4294967296+_=n;omega
def zqZ(xs:List Dig):Prop:=xs=[]∨dig xs (xs.length-1)≠0
def zfB:∀{xs:List Dig},zqZ xs->xs≠[]->val xs≠0
 |[],_,h=>absurd rfl h
 |[x],h,_=>by
  rcases h with h|h
  .cases h
  have:dig [x] ([x].length-1)=x.val:=rfl;simp only[val];omega
 |x::y::r,h,_=>by
  have a:zqZ (y::r):=by
   rcases h with h|h
   .cases h
   right
   simp only[Xn,QA]at h ⊢;rw[zaq]at h;exact h
  have:=zfB a sI;rw[vA];omega
def zq0:∀{xs:List Dig},zqZ xs->zn (val xs)=xs
 |[],_=>j9
 |x::r,h=>by
  have e:=zfB h sI
  have d:zqZ r:=by
   rcases h with h|h
   .cases h
   cases r with
   |nil=>exact .inl rfl
   |cons y r=>
    right
    simp only[Xn,QA]at h ⊢;rw[zaq]at h;exact h
  have g:=x.isLt;rw[zgS e];have a:val (x::r)%4294967296=x.val:=by rw[vA];omega
  have b:val (x::r)/4294967296=val r:=by rw[vA];omega
  rw[b,zq0 d];congr 1;exact Fin.ext a
def zaa(n:Nat):zqZ (zn n):=by
 induction n using Nat.strongRecOn with
 |_ n a=>
  by_cases h:n=0
  .subst h;rw[j9];exact .inl rfl
  have a:=a _ (Yr (Kg h) (show 1<4294967296 by decide))
  right
  rw[zgS h]
  rcases a with a|a
  .have e:=zr (n/4294967296);rw[a]at e ⊢;simp only[val]at e;show n%4294967296≠0;omega
  by_cases b:zn (n/4294967296)=[]
  .rw[b]at a;exact absurd (by rfl) a
  obtain⟨y,r,b⟩:=List.exists_cons_of_ne_nil b;rw[b]at a ⊢;simp only[Xn,QA]at a ⊢;rw[zaq];exact a
def zkV{n:Nat}(h:n=0∨dig xs (n-1)≠0)(g:n<=xs.length)(l:∀i,n<=i->dig xs i=0):xs.take n=zn (val xs):=by
 have e:val xs=val (xs.take n):=by
  rw[kT xs n]
  have:val (xs.drop n)=0:=by
   have key:∀k,val (xs.drop (n+k))=0∨k<=xs.length:=λk=>by
    by_cases d:k<=xs.length
    .exact .inr d
    exact .inl (kg oM)
   have down:∀j,val (xs.drop (n+(xs.length-j)))=0:=by
    intro j
    induction j with
    |zero=>exact kg oM
    |succ j b=>
     by_cases m:j<xs.length
     .rw[zG,l _ oM,show n+(xs.length-(j+1))+1=n+(xs.length-j) by omega,b]
     rw[show n+(xs.length-(j+1))=n+(xs.length-j) by omega];exact b
   have:=down xs.length
   simpa using this
  rw[this];simp
 rw[e,zq0]
 by_cases a:n=0
 .subst a;exact .inl rfl
 right
 rw[Xo,Qn g,zzo,Xe oM];exact h.resolve_left a
def jQ{n k:Nat}(h:n<4294967296^k):(zn n).length<=k:=by
 induction k generalizing n with
 |zero=>
   have:n=0:=by simpa using h
   subst this;rw[j9];simp
 |succ k b=>
  by_cases a:n=0
  .subst a;rw[j9];simp
  rw[zgS a,Xn]
  have:n/4294967296<4294967296^k:=by
   rw[X0 dC];rwa [X1]at h
  have:=b this;omega
def zc3{n k:Nat}(h:(zn n).length<=k):n<4294967296^k:=by
 have:=je (zn n);rw[zr]at this;exact Xx this (XJ dC h)
def zK(xs:List Dig):(zn (val xs)).length<=xs.length:=jQ (je xs)
def yI{n:Nat}:zn n=[]↔n=0:=by
 constructor
 .intro h;have:=zr n;rw[h]at this;exact this.symm
 rintro rfl;exact j9
def jF{n:Nat}:0<(zn n).length↔n≠0:=by
 rw[JS,Ne,yI]
def zo4{n:Nat}(h:n≠0):4294967296^((zn n).length-1)<=n:=by
 rcases Kc n (4294967296^((zn n).length-1)) with a|a
 .have:=jQ a;have:=jF.2 h;omega
 exact a
def qt{m n:Nat}(h:m<=n):(zn m).length<=(zn n).length:=jQ (Qh h (zc3 (Xj _)))
def zd5{xs ys:List Dig}{k:Nat}(h:∀i,k<=i->dig xs i=dig ys i):val (xs.drop k)=val (ys.drop k):=by
 have down:∀j,∀a,k<=a->max xs.length ys.length<=a+j->val (xs.drop a)=val (ys.drop a):=by
  intro j
  induction j with
  |zero=>intro a _ b;rw[kg oM,kg oM]
  |succ j d=>
   intro a b e;rw[zG,zG ys,h a b,d (a+1) oM oM]
 exact down (max xs.length ys.length) k (Xj _) oM
def znm{ys:List Dig}(h:∀i,dig xs i=dig ys i):val xs=val ys:=by
 have:=zd5 (k:=0) (xs:=xs) (ys:=ys) (λi _=>h i)
 simpa using this
def zCY(xs:List Dig)(i:Nat):dig xs i=val xs/4294967296^i%4294967296:=by
 have a:=kT xs i;have b:=qV xs i;have d:=zG xs i;have g:=yV xs i
 have e:val xs/4294967296^i=val (xs.drop i):=by
  rw[a,Q2,QG (zd4 i),Ko b,XW]
 rw[e,d];omega
def zkW(xs:List Dig)(i:Nat):val (xs.drop i)=val xs/4294967296^i:=by
 have a:=kT xs i;have b:=qV xs i;rw[a,Q2,QG (zd4 i),Ko b,XW]
def zq1(xs:List Dig)(i:Nat):val (xs.take i)=val xs%4294967296^i:=by
 have a:=kT xs i;have b:=qV xs i;rw[a,J8,Xy b]
def dof(n:Nat):Dig:=⟨n%4294967296,Kn _ dC⟩
def kz(n:Nat):(dof n).val=n%4294967296:=rfl
def kC(n:Nat):Nat:=if n=0 then 0 else n.log2+1
def zd6(n:Nat):n<2^kC n:=by
 unfold kC;split
 .subst_vars;decide
 exact Nat.lt_log2_self
def zcl{n:Nat}(h:n≠0):2^(kC n-1)<=n:=by
 unfold kC;rw[Xc h];exact Nat.log2_self_le h
def zgT{n k:Nat}(e:n<2^k)(g:n≠0)(h:2^(k-1)<=n):kC n=k:=by
 have a:=zd6 n;have b:=zcl g;have c:2^(kC n-1)<2^k:=Qh b e;have d:2^(k-1)<2^kC n:=Qh h a;have c:=(QJ (by decide:1<2)).1 c;have d:=(QJ (by decide:1<2)).1 d;have:0<kC n:=by unfold kC;rw[Xc g];omega
 have:k≠0:=by rintro rfl;simp at e;exact g e
 omega
def ztD:kC 0=0:=rfl
def zcm{n:Nat}:0<kC n↔n≠0:=by
 unfold kC;split <;> omega
def zbx(k:Nat):4294967296^k=2^(32*k):=by rw[show 4294967296=2^32 by decide,←Nat.pow_mul]
def zw1{n:Nat}(h:2<=n):n.log2=(n/2).log2+1:=by rw[Nat.log2_def,Xe h]
def ztE{n:Nat}(h:n≠0):kC n=kC (n/2)+1:=by
 unfold kC;rw[Xc h]
 by_cases a:n/2=0
 .rw[Xe a];have:n=1:=oM;subst this;rfl
 rw[Xc a,zw1 oM]
def zcn(a:dig xs (xs.length-1)≠0):kC (val xs)=32*(xs.length-1)+kC (dig xs (xs.length-1)):=by
 have j:0<xs.length:=by
  rcases Kx xs.length with h|h
  .rw[XP.1 h]at a;exact absurd rfl a
  exact h
 have b:=kT xs (xs.length-1);have e:=qV xs (xs.length-1);have d:=zG xs (xs.length-1);rw[show xs.length-1+1=xs.length by omega,kg (Xj _),Kv,XW]at d;rw[d]at b;generalize dig xs (xs.length-1)=t at*;have p1:=zd6 t;have g:=zcl a;rw[zbx]at b e;have p0:0<2^(32*(xs.length-1)):=Qa dC;have np:0<kC t:=zcm.2 a;refine zgT ?_ ?_ ?_
 .rw[Kj];have:2^(32*(xs.length-1))*(t+1)<=2^(32*(xs.length-1))*2^kC t:=Kl _ p1;rw[KL,Jm]at this;omega
 .have:2^(32*(xs.length-1))*1<=2^(32*(xs.length-1))*t:=Kl _ oM;omega
 rw[show 32*(xs.length-1)+kC t-1=32*(xs.length-1)+(kC t-1) by omega,Kj];have:2^(32*(xs.length-1))*2^(kC t-1)<=2^(32*(xs.length-1))*t:=Kl _ g;omega
def zd7{xs:List Dig}{N:Nat}(h:∀j,j<xs.length->dig xs j=N/4294967296^j%4294967296):val xs=N%4294967296^xs.length:=by
 have key:∀i,i<=xs.length->val (xs.take i)=N%4294967296^i:=by
  intro i
  induction i with
  |zero=>intro _;rw[Jv,Nat.mod_one];rfl
  |succ i a=>
   intro hi;rw[zT,a oM,h i oM,X1,Nat.mod_mul]
 have:=key xs.length (Xj _)
 rwa [X9]at this
def zu3(xs:List Dig)(w s j:Nat)(b:s<32):val xs/2^(32*w+s)/4294967296^j%4294967296=(dig xs (w+j+1)*4294967296+dig xs (w+j))/2^s%4294967296:=by
 have e:val xs/2^(32*w+s)/4294967296^j=val (xs.drop (w+j))/2^s:=by
  rw[zkW,Yq,Yq];congr 1;rw[zbx,zbx,←Kj,←Kj];congr 1;omega
 rw[e,zG,zG];generalize val (xs.drop (w+j+1+1))=R;generalize dig xs (w+j+1)=x;generalize dig xs (w+j)=y;have a:2^s*2^(32-s)=4294967296:=by rw[←Kj,show s+(32-s)=32 by omega]
 have:y+4294967296*(x+4294967296*R)=(x*4294967296+y)+2^s*(2^(32-s)*4294967296*R):=by
  rw[show 2^s*(2^(32-s)*4294967296*R)=(2^s*2^(32-s))*4294967296*R by simp only[KI],a];omega
 rw[this,Nat.add_mul_div_left _ _ (Qa dC)];rw[show 2^(32-s)*4294967296*R=4294967296*(2^(32-s)*R) by rw[Ky (2^(32-s)),KI],J8]
end
open Go.Proofs
def dgE(d:Dig):LR:=[.val (.int .u32 (d.val:Int))]
abbrev u32(n:Int):SV:=.val (.int .u32 n)
abbrev u64(n:Int):SV:=.val (.int .u64 n)
abbrev qz(xs:List Dig):Mem:=.arr 179 dgE 1 xs
def qT(xs:List Dig):zgv (qz xs):=λ_ _=>rfl
def qG(xs:List Dig):zjK (qz xs):=λ_ _=>rfl
def zkX(e:Int):IntKind.u32.wrap e=e%4294967296:=rfl
def yn(e:Int):IntKind.u64.wrap e=e%18446744073709551616:=rfl
def zid(d:Dig):[d].length=1/\1<=281474976710656/\1*1<=16777216/\0<1/\∀x∈[d],(dgE x).length=1/\j8 (dgE x)=true/\yd.flats (dgE x)=true:=
 ⟨rfl,dC,dC,dC,λ_ _=>⟨rfl,rfl,rfl⟩⟩
def zfC:([]:List Dig).length=0/\0<=281474976710656/\0*1<=16777216/\0<1/\∀x∈([]:List Dig),(dgE x).length=1/\j8 (dgE x)=true/\yd.flats (dgE x)=true:=
 ⟨rfl,dC,dC,dC,λ_ _=>⟨rfl,rfl,rfl⟩⟩
def zie{xs ys:List Dig}(h:xs.length+ys.length<=2000000000):((xs.length+ys.length:Int)*(4:Nat)<=140737488355328/\xs.length+ys.length<=281474976710656/\0<1/\∀x∈ys,(dgE x).length=1):=
 ⟨oM,oM,dC,λ_ _=>rfl⟩
def zgU(a b:Nat):Int:=if a<b then-1 else if b<a then 1 else 0
def zeW{a b:Nat}:zgU a b<0↔a<b:=by
 unfold zgU;split
 .simp_all
 split <;> simp_all
def zu4{a b:Nat}:0<zgU a b↔b<a:=by
 unfold zgU;split
 .simp;omega
 split <;> simp_all
def jG(a:List Dig)(t:a.length<=1000000000):CG0 297 [.sl dgE a] [] (.own 0) [(0,qz (zn (val a)))]:=by
 refine qA tok mix func297 rfl rfl rfl λs=>?_;refine⟨Nat,λn=>⟨[(3,i64 n),(0,.sl dgE a)],[],0,34,0⟩,λn=>n<=a.length/\∀i,n<=i->dig a i=0,λn=>n,a.length,?_,?_,?_⟩
 .exact⟨Xj _,λi h=>za4 h⟩
 .exact zC []
 rintro n ⟨g,d⟩
 have post:∀(n:Nat),n<=a.length->(∀i,n<=i->dig a i=0)->(n=0∨dig a (n-1)≠0)->zn (val a)=a.take n:=λn g d k=>(zkV k g d).symm
 refine⟨λk=>?_,λk=>?_⟩
 .refine wa<|wb λx j=>?_;refine⟨λq=>?_,λq=>?_⟩
  .refine wa<|⟨n-1,⟨oM,λi hi=>?_⟩,jo [] ⟨iR oM,rfl,tV⟩ trivial,oN⟩
   by_cases e:i=n-1
   .subst e;rw[show((n:Int)-1).toNat=n-1 by omega]at j;rw[zX j];omega
   exact d i oM
  have m:dig a (n-1)≠0:=by
   rw[show((n:Int)-1).toNat=n-1 by omega]at j;rw[zX j];omega
  rw[post n g d (.inr m)];refine⟨Dig,dgE,[],rfl,Ob.mk zfC ?_⟩;refine⟨Nat,λi=>⟨[(5,i64 i),(3,i64 n),(4,.own 0),(0,.sl dgE a)],[(0,qz (a.take i))],1,34,0⟩,λi=>i<=n,λi=>n-i,0,?_,?_,?_⟩
  .exact Xh _
  .exact zf [0]
  rintro i hi
  have hi:i<=n:=hi;refine⟨λp=>?_,λp=>?_⟩
  .refine wb λy o=>?_;refine⟨Dig,dgE,[y],rfl,Ob.mk (zid y) ?_⟩;refine⟨_,rfl,Ob.mk (zie (by simp;omega)) ?_⟩;refine wa ?_
   refine⟨i+1,by show i+1<=n;omega,qI [(0,some 2)] rfl rfl rfl ⟨rfl,rfl,rfl,rfl,tV⟩
    ⟨Xg (λl=>some (qz l)) (by rw[Xm,show a[i]?=some y from o];rfl),tV⟩,oN⟩
  have b:i=n:=by omega
  subst b;exact⟨some 0,.own _ rfl,rfl,λ_ _=>rfl⟩
 have m:n=0:=by omega
 rw[post n g d (.inl m)];refine⟨Dig,dgE,[],rfl,Ob.mk zfC ?_⟩;refine⟨Nat,λi=>⟨[(5,i64 i),(3,i64 n),(4,.own 0),(0,.sl dgE a)],[(0,qz (a.take i))],1,34,0⟩,λi=>i<=n,λi=>n-i,0,?_,?_,?_⟩
 .exact Xh _
 .exact zf [0]
 rintro i hi
 have hi:i<=n:=hi;refine⟨λp=>?_,λp=>?_⟩
 .refine wb λy o=>?_;refine⟨Dig,dgE,[y],rfl,Ob.mk (zid y) ?_⟩;refine⟨_,rfl,Ob.mk (zie (by simp;omega)) ?_⟩;refine wa ?_
  refine⟨i+1,by show i+1<=n;omega,qI [(0,some 2)] rfl rfl rfl ⟨rfl,rfl,rfl,rfl,tV⟩
   ⟨Xg (λl=>some (qz l)) (by rw[Xm,show a[i]?=some y from o];rfl),tV⟩,oN⟩
 have b:i=n:=by omega
 subst b;exact⟨some 0,.own _ rfl,rfl,λ_ _=>rfl⟩
def yJ(a:List Dig)(i:Int)(hi:0<=i):CX 414 [.sl dgE a,i64 i] (u64 (dig a i.toNat)):=by
 refine zc func414<|Br.mk (λh=>?_) (λh=>?_)
 .omega
 intro e;refine⟨λb=>?_,λb=>?_⟩
 .exact ze (by rw[za4 oM];rfl)
 refine wb λx d=>?_;have:=x.isLt;exact wa<|ze (by rw[zX d])
def zby{n:Nat}{e:Int}(h:e=n):((dof n).val:Int)=IntKind.u32.wrap e:=by rw[zkX,kz,h];omega
def zgV{a b:List Dig}{j:Nat}(h:∀i,j+1<=i->dig a i=dig b i)(n:dig a j<dig b j):val a<val b:=by
 have d:=kT a j;have e:=kT b j;have g:=qV a j;have k:=zG a j;have l:=zG b j;have m:=zd5 h;have:val (a.drop j)+1<=val (b.drop j):=oM;have:=Kl (4294967296^j) this;rw[KL]at this;omega
def zzp(a b:List Dig)(s:a.length<=1000000000)(t:b.length<=1000000000):
  CX 416 [.sl dgE a,.sl dgE b] (i64 (zgU (val a) (val b))):=by
 refine zc func416 λo p=>Ar.fit (by simp only[zdF];omega)<|⟨Nat,λj=>⟨[(5,i64 ((j:Int)-1)),(0,.sl dgE a),(1,.sl dgE b)],[],0,30,0⟩,λj=>j<=1000000000/\∀i,j<=i->dig a i=dig b i,λj=>j,max a.length b.length,?_,?_,?_⟩
 .exact⟨oM,λi hi=>by rw[za4 oM,za4 oM]⟩
 .exact jo [] ⟨iR (by simp only[zdF];omega),rfl,rfl,tV⟩ trivial
 rintro j ⟨q,g⟩
 refine⟨λm=>?_,λm=>?_⟩
 .have e:((j:Int)-1).toNat=j-1:=by omega
  have d:∀i,j-1+1<=i->dig a i=dig b i:=λi hi=>g i oM
  refine wg (yJ a _ oM)<|wg (yJ b _ oM)<|⟨λh=>?_,λh=>?_⟩
  .have:=zgV d (by rw[e]at h;omega);exact ze (by rw[zgU,Xe this])
  refine wg (yJ a _ oM)<|wg (yJ b _ oM)<|⟨λk=>?_,λk=>?_⟩
  .have:=zgV (λi hi=>(d i hi).symm) (by rw[e]at k;omega);exact ze (by rw[zgU,Xc oM,Xe this])
  refine wa<|⟨j-1,⟨oM,λi hi=>?_⟩,jo [] ⟨iR oM,rfl,rfl,tV⟩ trivial,oN⟩
  by_cases l:i=j-1
  .subst l;rw[e]at h k;omega
  exact g i oM
 have n:j=0:=by omega
 subst n;have:=znm λi=>g i (Xh _)
 exact ze (by rw[zgU,Xc oM,Xc oM])
def zFM(a b:List Dig)(t:a.length<=900000000)(u:b.length<=900000000):
  CG0 357 [.sl dgE a,.sl dgE b] [] (.own 0) [(0,qz (zn (val a+val b)))]:=by
 refine qA tok mix func357 rfl rfl rfl<|⟨Dig,dgE,[],rfl,Ob.mk zfC ?_⟩
 refine⟨Nat×List Dig×Nat,λq=>⟨[(7,i64 q.1),(6,u64 q.2.2),(5,.own 0),(0,.sl dgE a),(1,.sl dgE b)],[(0,qz q.2.1)],1,42,0⟩,
  λq=>q.1<=max a.length b.length/\q.2.1.length=q.1/\q.2.2<=1/\val q.2.1+4294967296^q.1*q.2.2=val (a.take q.1)+val (b.take q.1),λq=>max a.length b.length-q.1,(0,[],0),?_,?_,?_⟩
 .exact⟨Xh _,rfl,Xh _,rfl⟩
 .exact zf [0]
 rintro⟨i,out,c⟩ ⟨j,d,k,h⟩
 dsimp only at j d k h;intro l m;refine⟨λg=>?_,λg=>?_⟩
 .simp only[zdF]at g;have o:=yV a i;have s:=yV b i;refine wg (yJ a _ oM)<|wg (yJ b _ oM) ?_;simp only[XT];(iterate 2 refine wa ?_);refine Ar.wrap<|⟨Dig,dgE,[dof (dig a i+dig b i+c)],Xg (λn=>[u32 n]) (zby oM),Ob.mk (zid _) ?_⟩;refine⟨_,rfl,Ob.mk (zie (by simp;omega)) ?_⟩;refine wb1<|wa ?_
  refine⟨(i+1,out++[dof (dig a i+dig b i+c)],(dig a i+dig b i+c)/4294967296),⟨oN,by simp[d],oN,?_⟩,
   zP [2] ⟨rfl,Xg (λn=>some (u64 n)) oN,rfl,rfl,rfl,tV⟩ ⟨rfl,tV⟩,oN⟩
  dsimp only;rw[vB,d,kz,zT,zT,X1];have e:=Kf (dig a i+dig b i+c) 4294967296;generalize (dig a i+dig b i+c)/4294967296=x at*;generalize (dig a i+dig b i+c)%4294967296=y at*;generalize 4294967296^i=p at*
  grind
 simp only[zdF]at g;have hi:i=max a.length b.length:=oM;refine Ar.wrap<|⟨Dig,dgE,[dof c],Xg (λn=>[u32 n]) (zby rfl),Ob.mk (zid _) ?_⟩;refine⟨_,rfl,Ob.mk (zie (by simp;omega)) ?_⟩;refine zb.fresh _ _ (jG _ (by simp;omega)) rfl (qT _) (.inr (qG _))<|⟨some 3,.own _ rfl,?_,λ_ _=>rfl⟩
 have e:val (out++[dof c])=val a+val b:=by
  rw[vB,d,kz,Xy oM,h,kV oM,kV oM]
 rw[←e];rfl
def uI(a:List Dig)(b:a.length<=1000000000):CX 297 [.sl dgE a] (.sl dgE (zn (val a))):=
 (jG a b).plain rfl
def zjR(a b:List Dig)(d:a.length<=900000000)(e:b.length<=900000000):
  CX 357 [.sl dgE a,.sl dgE b] (.sl dgE (zn (val a+val b))):=(zFM a b d e).plain rfl
def zzq(a b:List Dig)(D:a.length<=900000000)(E:b.length<=900000000):
  CG0 358 [.sl dgE a,.sl dgE b] [] (.tup [.own 0,pr (val b<=val a)]) [(0,qz (zn (val a-val b)))]:=by
 refine qA tok mix func358 rfl rfl rfl<|wg (zzp a b oM oM)<|⟨λh=>?_,λh=>?_⟩
 .have A:val a<val b:=zeW.1 h;refine⟨none,zkP (.cons (.nil rfl) (.cons (.le _ _ (zd oM) rfl) .nil)),?_⟩;show zn (val a-val b)=[];rw[YF oM];exact j9
 have g:val b<=val a:=Q6 λt=>h (zeW.2 t)
 refine⟨Dig,dgE,[],rfl,Ob.mk zfC ?_⟩
 refine⟨Nat×List Dig×Nat,λ⟨i,out,c⟩=>⟨[(8,i64 i),(7,u64 c),(6,.own 0),(0,.sl dgE a),(1,.sl dgE b)],[(0,qz out)],1,41,0⟩,
  λq=>q.1<=a.length/\q.2.1.length=q.1/\q.2.2<=1/\val q.2.1+val (b.take q.1)=val (a.take q.1)+4294967296^q.1*q.2.2,λq=>a.length-q.1,(0,[],0),?_,?_,?_⟩
 .exact⟨Xh _,rfl,Xh _,rfl⟩
 .exact zf [0]
 rintro⟨i,out,c⟩ ⟨u,d,v,j⟩
 dsimp only at u d v j;intro z;refine⟨λw=>?_,λw=>?_⟩
 .have B:=yV a i;have C:=yV b i;refine wg (yJ a _ oM) ?_;simp only[XT];refine wa<|wg (yJ b _ oM) ?_;simp only[XT];(iterate 2 refine wa ?_);refine Ar.wrap<|⟨Dig,dgE,[dof (4294967296+dig a i-dig b i-c)],Xg (λn=>[u32 n]) (zby oM),Ob.mk (zid _) ?_⟩;refine⟨_,rfl,Ob.mk (zie (by simp;omega)) ?_⟩;refine wb1<|Ar.fit (by simp only[Int.reducePow];omega)<|wa ?_
  refine⟨(i+1,out++[dof (4294967296+dig a i-dig b i-c)],1-(4294967296+dig a i-dig b i-c)/4294967296),⟨oN,by simp[d],oN,?_⟩,
   zP [2] ⟨rfl,Xg (λn=>some (u64 n)) oN,rfl,rfl,rfl,tV⟩ ⟨rfl,tV⟩,oN⟩
  dsimp only;rw[vB,d,kz,zT,zT,X1];have e:(4294967296+dig a i-dig b i-c)%4294967296+dig b i+c=dig a i+4294967296*(1-(4294967296+dig a i-dig b i-c)/4294967296):=oM;generalize 1-(4294967296+dig a i-dig b i-c)/4294967296=x at*;generalize (4294967296+dig a i-dig b i-c)%4294967296=y at*;generalize 4294967296^i=p at*
  have m:p*y+p*dig b i+p*c=p*dig a i+p*4294967296*x:=by
   rw[←KL,←KL,e,KL,KI]
  omega
 have hi:i=a.length:=by omega
 refine zb.fresh _ _ (jG _ oM) rfl (qT _) (.inr (qG _))<|⟨some 1,zkP (.cons (.own _ rfl) (.cons (.le _ _ (zH g) rfl) .nil)),?_,λ_ _=>rfl⟩
 have e:val out=val a-val b:=by
  subst hi;have k:val (a.take a.length)=val a:=kV (Xj _);rw[k]at j;have l:=kT b a.length;have m:=je a
  have o:val (b.drop a.length)=0:=by
   rcases Kx (val (b.drop a.length)) with h|h
   .exact h
   have:=Kl (4294967296^a.length) h;omega
  have s:=je out;rw[d]at s;rw[o]at l;have:c=0∨c=1:=oM
  rcases this with rfl|rfl <;> omega
 rw[←e];rfl
def zo5(a b:List Dig)(d:a.length<=900000000)(e:b.length<=900000000):
  CX 358 [.sl dgE a,.sl dgE b] (.tup [.sl dgE (zn (val a-val b)),pr (val b<=val a)]):=(zzq a b d e).plain rfl
def zzr{x y c:Nat}(b:x<4294967296)(d:y<4294967296)(a:c<4294967296):x*y+c<=18446744069414584320:=by
 have:x*y<=4294967295*4294967295:=QB oM oM;omega
def zeX{x y:Nat}(a:x<4294967296)(b:y<4294967296):x*y<=18446744065119617025:=by
 have:x*y<=4294967295*4294967295:=QB oM oM;omega
def zq2{p q x y z c u v w o a r:Nat}(b:o+p*q*c=a+p*(x*w))(d:r+p*q*z=o+p*q*v)(e:4294967296*u+v=x*y+z+c):
  r+p*q*4294967296*u=a+p*(x*(w+q*y)):=by grind
def zzs(a:List Dig)(d:Nat)(z:a.length<=900000000)(k:d<4294967296):
  CG0 415 [.sl dgE a,u64 d] [] (.own 0) [(0,qz (zn (val a*d)))]:=by
 refine qA tok mix func415 rfl rfl rfl<|⟨Dig,dgE,[],rfl,Ob.mk zfC ?_⟩
 refine⟨Nat×List Dig×Nat,λ⟨i,out,c⟩=>⟨[(7,i64 i),(6,u64 c),(5,.own 0),(0,.sl dgE a),(1,u64 d)],[(0,qz out)],1,39,0⟩,
  λq=>q.1<=a.length/\q.2.1.length=q.1/\q.2.2<4294967296/\val q.2.1+4294967296^q.1*q.2.2=val (a.take q.1)*d,λq=>a.length-q.1,(0,[],0),?_,?_,?_⟩
 .exact⟨Xh _,rfl,dC,by simp[val]⟩
 .exact zf [0]
 rintro⟨i,out,c⟩ ⟨l,b,h,j⟩
 dsimp only at l b h j;intro o;refine⟨λm=>?_,λm=>?_⟩
 .refine wb λx(t:a[i]?=some x)=>?_;have dx:=zX t;have s:=zzr x.isLt k h;have g:=zeX x.isLt k;have y:=x.isLt;(iterate 3 refine wa ?_);refine Ar.wrap<|⟨Dig,dgE,[dof (x.val*d+c)],Xg (λn=>[u32 n]) (zby oM),Ob.mk (zid _) ?_⟩;refine⟨_,rfl,Ob.mk (zie (by simp;omega)) ?_⟩;refine wb1<|wa ?_
  refine⟨(i+1,out++[dof (x.val*d+c)],(x.val*d+c)/4294967296),⟨oN,by simp[b],oN,?_⟩,
   zP [2] ⟨rfl,Xg (λn=>some (u64 n)) oN,rfl,rfl,rfl,tV⟩ ⟨rfl,tV⟩,oN⟩
  dsimp only;rw[vB,b,kz,zT,X1,dx];have e:=Kf (x.val*d+c) 4294967296;generalize (x.val*d+c)/4294967296=u at*;generalize (x.val*d+c)%4294967296=v at*;generalize 4294967296^i=p at*;generalize x.val=x at*;generalize val (a.take i)=w at*;clear s g
  grind
 have hi:i=a.length:=by omega
 refine Ar.wrap<|⟨Dig,dgE,[dof c],Xg (λn=>[u32 n]) (zby rfl),Ob.mk (zid _) ?_⟩;refine⟨_,rfl,Ob.mk (zie (by simp;omega)) ?_⟩;refine zb.fresh _ _ (jG _ (by simp;omega)) rfl (qT _) (.inr (qG _))<|⟨some 3,.own _ rfl,?_,λ_ _=>rfl⟩
 have e:val (out++[dof c])=val a*d:=by
  rw[vB,b,kz,Xy oM,j,kV oM]
 rw[←e];rfl
def zw2(a:List Dig)(d:Nat)(b:a.length<=900000000)(e:d<4294967296):
  CX 415 [.sl dgE a,u64 d] (.sl dgE (zn (val a*d))):=(zzs a d b e).plain rfl
def zFN(a b:List Dig)(W:a.length<=400000000)(X:b.length<=400000000):
  CG0 276 [.sl dgE a,.sl dgE b] [] (.own 0) [(0,qz (zn (val a*val b)))]:=by
 refine qA tok mix func276 rfl rfl rfl λK L=>?_;(iterate 2 refine wa ?_);refine⟨Dig,dgE,0,rfl,wb7 ?_⟩
 refine⟨Nat×List Dig,λ⟨i,out⟩=>⟨[(6,i64 i),(5,.own 0),(0,.sl dgE a),(1,.sl dgE b)],[(0,qz out)],1,69,0⟩,
  λq=>q.1<=a.length/\q.2.length=a.length+b.length+1/\val q.2=val (a.take q.1)*val b/\∀j,q.1+b.length<=j->dig q.2 j=0,λq=>a.length-q.1,(0,List.replicate (a.length+b.length+1) 0),?_,?_,?_⟩
 .exact⟨Xh _,sI,by simp[zbc,val],λj _=>yQ _ _⟩
 .exact zt [0] ⟨Xg (λn=>some (qz (List.replicate n 0))) oM,tV⟩
 rintro⟨i,out0⟩ ⟨G,B,l,s⟩
 dsimp only at G B l s;intro M;refine⟨λI=>?_,λI=>?_⟩
 .refine⟨Nat×List Dig×Nat,λ⟨k,out,c⟩=>⟨[(8,i64 k),(7,u64 c),(6,i64 i),(5,.own 0),(0,.sl dgE a),(1,.sl dgE b)],[(0,qz out)],1,69,0⟩,
   λq=>q.1<=b.length/\q.2.1.length=a.length+b.length+1/\q.2.2<4294967296/\val q.2.1+4294967296^(i+q.1)*q.2.2=val out0+4294967296^i*(dig a i*val (b.take q.1))/\∀j,i+b.length<=j->dig q.2.1 j=0,λq=>b.length-q.1,(0,out0,0),?_,?_,?_⟩
  .exact⟨Xh _,B,oN,by simp[val],s⟩
  .exact zf [0]
  rintro⟨k,out,c⟩ ⟨E,m,A,d,g⟩
  dsimp only at E m A d g;intro N;refine⟨λF=>?_,λF=>?_⟩
  .refine wc<|wb λx(S:a[i]?=some x)=>?_;have dx:=zX S;have t:=x.isLt;refine wa<|wb λy(T:b[k]?=some y)=>?_;have dy:=zX T;have u:=y.isLt;refine wa ?_;have R:=zeX t u;(iterate 2 refine wa ?_);refine wb<|wb λz D=>?_;rw[show((i:Int)+k).toNat=i+k by omega]at D;have dz:=zX D;have U:=z.isLt;(iterate 4 refine wa ?_);refine Ar.wrap<|wb<|wb λV v=>?_
   refine⟨dof (x.val*y.val+z.val+c),Xg (λn=>[u32 n]) (zby oM),?_⟩;refine wb1<|wa ?_
   refine⟨(k+1,out.set (i+k) (dof (x.val*y.val+z.val+c)),(x.val*y.val+z.val+c)/4294967296),⟨oN,by simp[m],oN,?_,?_⟩,
    zP [0] ⟨rfl,Xg (λn=>some (u64 n)) oN,rfl,rfl,rfl,rfl,tV⟩ ⟨Xg (λn=>some (qz (out.set n _))) oM,tV⟩,oN⟩
   .dsimp only;have h:=zar out (i+k) (dof (x.val*y.val+z.val+c)) oM;rw[kz,dz]at h;rw[zT,dy,←KH i k 1,X1];rw[dx]at d ⊢;have e:=Kf (x.val*y.val+z.val+c) 4294967296;rw[Kj]at d h ⊢;exact zq2 d h e
   intro j C;dsimp only;rw[jU,Xc oM];exact g j C
  have J:k=b.length:=by omega
  intro O;refine wa<|Ar.wrap<|wb<|wb λV v=>?_;refine⟨dof c,Xg (λn=>[u32 n]) (zby rfl),?_⟩;refine wa ?_
  refine⟨(i+1,out.set (i+b.length) (dof c)),⟨oN,by simp[m],?_,?_⟩,
   zt [0] ⟨Xg (λn=>some (qz (out.set n _))) oM,tV⟩,oN⟩
  .dsimp only;have h:=zar out (i+b.length) (dof c) oM;rw[kz,g _ (Xj _),Xy A]at h;rw[J,kV (Xj _),l]at d;rw[zT];generalize val (out.set (i+b.length) _)=r at*;generalize 4294967296^i=p at*;generalize 4294967296^(i+b.length)=q at*;generalize val (a.take i)=w at*;generalize dig a i=x at*;generalize val out=o at*;clear s g
   grind
  intro j C;dsimp only;rw[jU,Xc oM];exact g j oM
 have hi:i=a.length:=by omega
 refine zb.fresh _ _ (jG _ oM) rfl (qT _) (.inr (qG _))<|⟨some 1,.own _ rfl,?_,λ_ _=>rfl⟩;rw[hi,kV (Xj _)]at l;rw[←l];rfl
def zCZ(a b:List Dig)(d:a.length<=400000000)(e:b.length<=400000000):
  CX 276 [.sl dgE a,.sl dgE b] (.sl dgE (zn (val a*val b))):=(zFN a b d e).plain rfl
abbrev LB:=List Dig
end Go.Gs
