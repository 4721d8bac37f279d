/- Rows of digits of base 2^32, least significant digit first, and the natural numbers that they stand for. -/
import Derived.Test.YtjfbljononkmcaaMA
import Derived.Test.YtjfbljononkmcaaMAQ
set_option maxRecDepth 100000
set_option maxHeartbeats 8000000
set_option linter.all false
namespace Go.Gs
abbrev Dig:=Fin 4294967296
def val:List Dig->Nat
 | []=>0
 | d::r=>d.val+4294967296*val r
def zu(n:Nat):List Dig:=
 if h:n=0 then [] else ⟨n % 4294967296,Nat.mod_lt _ dC⟩::zu (n / 4294967296)
termination_by n
decreasing_by exact Nat.div_lt_self (Nat.pos_of_ne_zero h) dC
def dig(xs:List Dig)(i:Nat):Nat:=match xs[i]? with
 | some d=>d.val
 | none=>0
theorem zcE(i:Nat):0 < 4294967296 ^ i:=Nat.pow_pos dC
theorem j5(xs:List Dig)(i:Nat):dig xs i < 4294967296:=by
 unfold dig;split
 ·exact Fin.isLt _
 ·decide
theorem ky{xs:List Dig}{i:Nat}{d:Dig}(h:xs[i]? =some d):dig xs i=d.val:=by simp [dig,h]
theorem uC{xs:List Dig}{i:Nat}(h:xs.length<=i):dig xs i=0:=by simp [dig,h]
theorem yX(d:Dig)(r:List Dig):dig (d::r) 0=d.val:=rfl
theorem qD(d:Dig)(r:List Dig)(i:Nat):dig (d::r) (i+1)=dig r i:=by simp [dig]
theorem zfC(xs:List Dig)(k i:Nat):dig (xs.take k) i=if i < k then dig xs i else 0:=by
 by_cases h:i < k <;> simp [dig,List.getElem?_take,h]
theorem zbN(xs:List Dig)(i j:Nat)(d:Dig):dig (xs.set i d) j=if i=j/\i < xs.length then d.val else dig xs j:=by
 simp only [dig,List.getElem?_set]
 by_cases h:i=j
 ·subst h
  by_cases h2:i < xs.length
  ·simp [h2]
  ·simp [h2];
 ·simp [h]
theorem zdq(xs ys:List Dig)(i:Nat):dig (xs++ys) i=if i < xs.length then dig xs i else dig ys (i - xs.length):=by
 by_cases h:i < xs.length <;> simp [dig,List.getElem?_append,h]
theorem zaP(n i:Nat):dig (List.replicate n (0:Dig)) i=0:=by
 simp only [dig,List.getElem?_replicate];by_cases h:i < n <;> simp [h]
theorem zd3:val []=0:=rfl
theorem qG(d:Dig)(r:List Dig):val (d::r)=d.val+4294967296*val r:=rfl
theorem ua:∀xs ys:List Dig,val (xs++ys)=val xs+4294967296 ^ xs.length*val ys
 | [],ys=>by simp [val]
 | x::xs,ys=>by
  simp only [List.cons_append,val,ua xs ys,List.length_cons,Nat.pow_succ]
  grind
theorem kR:∀xs:List Dig,val xs < 4294967296 ^ xs.length
 | []=>by simp [val]
 | x::xs=>by
  have h:=kR xs;have:=x.isLt;simp only [val,List.length_cons,Nat.pow_succ];omega
theorem kI(xs:List Dig)(i:Nat):val xs=val (xs.take i)+4294967296 ^ i*val (xs.drop i):=by
 by_cases h:i<=xs.length
 ·have:=ua (xs.take i) (xs.drop i);rw [List.take_append_drop,List.length_take,Nat.min_eq_left h] at this;exact this
 ·rw [List.take_of_length_le oM,List.drop_eq_nil_of_le oM];simp [val]
theorem qm(xs:List Dig)(i:Nat):val (xs.take i) < 4294967296 ^ i:=by
 have h:=kR (xs.take i);have:(xs.take i).length<=i:=by simp;omega
 exact Nat.lt_of_lt_of_le h (Nat.pow_le_pow_right dC this)
theorem zC(xs:List Dig)(i:Nat):val (xs.drop i)=dig xs i+4294967296*val (xs.drop (i+1)):=by
 by_cases h:i < xs.length
 ·rw [List.drop_eq_getElem_cons h,qG,ky (List.getElem?_eq_getElem h)]
 ·rw [List.drop_eq_nil_of_le oM,List.drop_eq_nil_of_le oM,uC oM];rfl
theorem zU(xs:List Dig)(i:Nat):val (xs.take (i+1))=val (xs.take i)+4294967296 ^ i*dig xs i:=by
 have h1:=kI xs i;have h2:=kI xs (i+1);have h3:=zC xs i;rw [Nat.pow_succ] at h2;rw [h3] at h1;generalize 4294967296 ^ i=q at*;generalize val (xs.take (i+1))=a at*;generalize val (xs.take i)=b at*;generalize val (xs.drop (i+1))=c at*;have:q*(dig xs i+4294967296*c)=q*dig xs i+q*4294967296*c:=by rw [Nat.mul_add,Nat.mul_assoc]
 omega
theorem kg{xs:List Dig}{i:Nat}(h:xs.length<=i):val (xs.take i)=val xs:=by rw [List.take_of_length_le h]
theorem zaQ(xs:List Dig):val (xs.take 0)=0:=rfl
theorem ki{xs:List Dig}{i:Nat}(h:xs.length<=i):val (xs.drop i)=0:=by rw [List.drop_eq_nil_of_le h];rfl
theorem zbO:∀(xs:List Dig) (i:Nat) (d:Dig),i < xs.length->val (xs.set i d)+4294967296 ^ i*dig xs i=val xs+4294967296 ^ i*d.val
 | [],i,d,h=>by simp at h
 | x::xs,0,d,_=>by simp only [List.set_cons_zero,val,yX];omega
 | x::xs,i+1,d,h=>by
  have ih:=zbO xs i d (by simpa using h);simp only [List.set_cons_succ,val,qD,Nat.pow_succ]
  grind
theorem jb(xs:List Dig)(d:Dig):val (xs++[d])=val xs+4294967296 ^ xs.length*d.val:=by
 rw [ua];simp [val]
theorem zbf(n:Nat):val (List.replicate n (0:Dig))=0:=by
 induction n with
 | zero=>rfl
 | succ n ih=>rw [List.replicate_succ,qG,ih];rfl
theorem qn:zu 0=[]:=by unfold zu;rfl
theorem uD{n:Nat}(h:n≠0):zu n=⟨n % 4294967296,Nat.mod_lt _ dC⟩::zu (n / 4294967296):=by
 rw [zu];simp [h]
theorem zA(n:Nat):val (zu n)=n:=by
 induction n using Nat.strongRecOn with
 | _ n ih=>
  by_cases h:n=0
  ·subst h;rw [qn];rfl
  ·rw [uD h,qG,ih _ (Nat.div_lt_self (Nat.pos_of_ne_zero h) dC)];show n % 4294967296+_=n;omega
def zcF(xs:List Dig):Prop:=xs=[]∨dig xs (xs.length - 1)≠0
theorem yY:∀{xs:List Dig},zcF xs->xs≠[]->val xs≠0
 | [],_,h=>absurd rfl h
 | [x],h,_=>by
  rcases h with h | h
  ·cases h
  ·have:dig [x] ([x].length - 1)=x.val:=rfl;simp only [val];omega
 | x::y::r,h,_=>by
  have h':zcF (y::r):=by
   rcases h with h | h
   ·cases h
   ·right
    simp only [List.length_cons,Nat.add_sub_cancel] at h ⊢;rw [qD] at h;exact h
  have:=yY h' (by simp);rw [qG];omega
theorem zcG:∀{xs:List Dig},zcF xs->zu (val xs)=xs
 | [],_=>qn
 | x::r,h=>by
  have hp:=yY h (by simp)
  have h':zcF r:=by
   rcases h with h | h
   ·cases h
   ·cases r with
    | nil=>exact .inl rfl
    | cons y r=>
     right
     simp only [List.length_cons,Nat.add_sub_cancel] at h ⊢;rw [qD] at h;exact h
  have hx:=x.isLt;rw [uD hp];have e1:val (x::r) % 4294967296=x.val:=by rw [qG];omega
  have e2:val (x::r) / 4294967296=val r:=by rw [qG];omega
  rw [e2,zcG h'];congr 1;exact Fin.ext e1
theorem ub(n:Nat):zcF (zu n):=by
 induction n using Nat.strongRecOn with
 | _ n ih=>
  by_cases h:n=0
  ·subst h;rw [qn];exact .inl rfl
  ·have ih:=ih _ (Nat.div_lt_self (Nat.pos_of_ne_zero h) (show 1 < 4294967296 by decide))
   right
   rw [uD h]
   rcases ih with ih | ih
   ·have e:=zA (n / 4294967296);rw [ih] at e ⊢;simp only [val] at e;show n % 4294967296≠0;omega
   ·by_cases he:zu (n / 4294967296)=[]
    ·rw [he] at ih;exact absurd (by rfl) ih
    ·obtain ⟨y,r,he⟩:=List.exists_cons_of_ne_nil he;rw [he] at ih ⊢;simp only [List.length_cons,Nat.add_sub_cancel] at ih ⊢;rw [qD];exact ih
theorem zdr{xs:List Dig}{n:Nat}(h:n=0∨dig xs (n - 1)≠0)(hn:n<=xs.length)(hz:∀i,n<=i->dig xs i=0):xs.take n=zu (val xs):=by
 have e:val xs=val (xs.take n):=by
  rw [kI xs n]
  have:val (xs.drop n)=0:=by
   have key:∀k,val (xs.drop (n+k))=0∨k<=xs.length:=fun k=>by
    by_cases hk:k<=xs.length
    ·exact .inr hk
    ·exact .inl (ki oM)
   have down:∀j,val (xs.drop (n+(xs.length - j)))=0:=by
    intro j
    induction j with
    | zero=>exact ki oM
    | succ j ih=>
     by_cases hj:j < xs.length
     ·rw [zC,hz _ oM,show n+(xs.length - (j+1))+1=n+(xs.length - j) by omega,ih]
     ·rw [show n+(xs.length - (j+1))=n+(xs.length - j) by omega];exact ih
   have:=down xs.length
   simpa using this
  rw [this];simp
 rw [e,zcG]
 by_cases hn0:n=0
 ·subst hn0;exact .inl rfl
 ·right
  rw [List.length_take,Nat.min_eq_left hn,zfC,if_pos oM];exact h.resolve_left hn0
theorem qa{n k:Nat}(h:n < 4294967296 ^ k):(zu n).length<=k:=by
 induction k generalizing n with
 | zero=>
   have:n=0:=by simpa using h
   subst this;rw [qn];simp
 | succ k ih=>
  by_cases h0:n=0
  ·subst h0;rw [qn];simp
  ·rw [uD h0,List.length_cons]
   have:n / 4294967296 < 4294967296 ^ k:=by
    rw [Nat.div_lt_iff_lt_mul dC];rwa [Nat.pow_succ] at h
   have:=ih this;omega
theorem zd4{n k:Nat}(h:(zu n).length<=k):n < 4294967296 ^ k:=by
 have:=kR (zu n);rw [zA] at this;exact Nat.lt_of_lt_of_le this (Nat.pow_le_pow_right dC h)
theorem j6(xs:List Dig):(zu (val xs)).length<=xs.length:=qa (kR xs)
theorem yB{n:Nat}:zu n=[]↔n=0:=by
 constructor
 ·intro h;have:=zA n;rw [h] at this;exact this.symm
 ·rintro rfl;exact qn
theorem uE{n:Nat}:0 < (zu n).length↔n≠0:=by
 rw [List.length_pos_iff,Ne,yB]
theorem zbg{m n:Nat}(h:m<=n):(zu m).length<=(zu n).length:=qa (Nat.lt_of_le_of_lt h (zd4 (Nat.le_refl _)))
theorem yC{xs ys:List Dig}{k:Nat}(h:∀i,k<=i->dig xs i=dig ys i):val (xs.drop k)=val (ys.drop k):=by
 have down:∀j,∀k',k<=k'->max xs.length ys.length<=k'+j->val (xs.drop k')=val (ys.drop k'):=by
  intro j
  induction j with
  | zero=>intro k' _ hk;rw [ki oM,ki oM]
  | succ j ih=>
   intro k' hk hj;rw [zC,zC ys,h k' hk,ih (k'+1) oM oM]
 exact down (max xs.length ys.length) k (Nat.le_refl _) oM
theorem zeM{xs ys:List Dig}(h:∀i,dig xs i=dig ys i):val xs=val ys:=by
 have:=yC (k:=0) (xs:=xs) (ys:=ys) (fun i _=>h i)
 simpa using this
theorem zcH(xs:List Dig)(i:Nat):val (xs.drop i)=val xs / 4294967296 ^ i:=by
 have h1:=kI xs i;have h2:=qm xs i;rw [h1,Nat.add_comm,Nat.mul_add_div (zcE i),Nat.div_eq_of_lt h2,Nat.add_zero]
def dof(n:Nat):Dig:=⟨n % 4294967296,Nat.mod_lt _ dC⟩
theorem kK(n:Nat):(dof n).val=n % 4294967296:=rfl
def kj(n:Nat):Nat:=if n=0 then 0 else n.log2+1
theorem zcI(n:Nat):n < 2 ^ kj n:=by
 unfold kj;split
 ·subst_vars;decide
 ·exact Nat.lt_log2_self
theorem zar{n:Nat}(h:n≠0):2 ^ (kj n - 1)<=n:=by
 unfold kj;rw [if_neg h];exact Nat.log2_self_le h
theorem zbP{n k:Nat}(h1:n < 2 ^ k)(h2:n≠0)(h3:2 ^ (k - 1)<=n):kj n=k:=by
 have a:=zcI n;have b:=zar h2;have c:2 ^ (kj n - 1) < 2 ^ k:=Nat.lt_of_le_of_lt b h1;have d:2 ^ (k - 1) < 2 ^ kj n:=Nat.lt_of_le_of_lt h3 a;have c:=(Nat.pow_lt_pow_iff_right (by decide:1 < 2)).1 c;have d:=(Nat.pow_lt_pow_iff_right (by decide:1 < 2)).1 d;have:0 < kj n:=by unfold kj;rw [if_neg h2];omega
 have:k≠0:=by rintro rfl;simp at h1;exact h2 h1
 omega
theorem zds:kj 0=0:=rfl
theorem u0{n:Nat}:0 < kj n↔n≠0:=by
 unfold kj;split <;> omega
theorem uF(k:Nat):4294967296 ^ k=2 ^ (32*k):=by rw [show 4294967296=2 ^ 32 by decide,← Nat.pow_mul]
theorem zeN{n:Nat}(h:2<=n):n.log2=(n / 2).log2+1:=by rw [Nat.log2_def,if_pos h]
theorem zdt{n:Nat}(h:n≠0):kj n=kj (n / 2)+1:=by
 unfold kj;rw [if_neg h]
 by_cases h1:n / 2=0
 ·rw [if_pos h1];have:n=1:=oM;subst this;rfl
 ·rw [if_neg h1,zeN oM]
theorem zbh{xs:List Dig}(hn:dig xs (xs.length - 1)≠0):kj (val xs)=32*(xs.length - 1)+kj (dig xs (xs.length - 1)):=by
 have hl:0 < xs.length:=by
  rcases Nat.eq_zero_or_pos xs.length with h | h
  ·rw [List.length_eq_zero_iff.1 h] at hn;exact absurd rfl hn
  ·exact h
 have e1:=kI xs (xs.length - 1);have e2:=qm xs (xs.length - 1);have e3:=zC xs (xs.length - 1);rw [show xs.length - 1+1=xs.length by omega,ki (Nat.le_refl _),Nat.mul_zero,Nat.add_zero] at e3;rw [e3] at e1;generalize dig xs (xs.length - 1)=t at*;have p1:=zcI t;have p2:=zar hn;rw [uF] at e1 e2;have p0:0 < 2 ^ (32*(xs.length - 1)):=Nat.pow_pos dC;have np:0 < kj t:=u0.2 hn;refine zbP ?_ ?_ ?_
 ·rw [Nat.pow_add];have:2 ^ (32*(xs.length - 1))*(t+1)<=2 ^ (32*(xs.length - 1))*2 ^ kj t:=Nat.mul_le_mul_left _ p1;rw [Nat.mul_add,Nat.mul_one] at this;omega
 ·have:2 ^ (32*(xs.length - 1))*1<=2 ^ (32*(xs.length - 1))*t:=Nat.mul_le_mul_left _ oM;omega
 ·rw [show 32*(xs.length - 1)+kj t - 1=32*(xs.length - 1)+(kj t - 1) by omega,Nat.pow_add];have:2 ^ (32*(xs.length - 1))*2 ^ (kj t - 1)<=2 ^ (32*(xs.length - 1))*t:=Nat.mul_le_mul_left _ p2;omega
theorem zcJ{xs:List Dig}{N:Nat}(h:∀j,j < xs.length->dig xs j=N / 4294967296 ^ j % 4294967296):val xs=N % 4294967296 ^ xs.length:=by
 have key:∀i,i<=xs.length->val (xs.take i)=N % 4294967296 ^ i:=by
  intro i
  induction i with
  | zero=>intro _;rw [Nat.pow_zero,Nat.mod_one];rfl
  | succ i ih=>
   intro hi;rw [zU,ih oM,h i oM,Nat.pow_succ,Nat.mod_mul]
 have:=key xs.length (Nat.le_refl _)
 rwa [List.take_length] at this
theorem zgt(xs:List Dig)(w s j:Nat)(hs:s < 32):val xs / 2 ^ (32*w+s) / 4294967296 ^ j % 4294967296=(dig xs (w+j+1)*4294967296+dig xs (w+j)) / 2 ^ s % 4294967296:=by
 have e:val xs / 2 ^ (32*w+s) / 4294967296 ^ j=val (xs.drop (w+j)) / 2 ^ s:=by
  rw [zcH,Nat.div_div_eq_div_mul,Nat.div_div_eq_div_mul];congr 1;rw [uF,uF,← Nat.pow_add,← Nat.pow_add];congr 1;omega
 rw [e,zC,zC];generalize val (xs.drop (w+j+1+1))=R;generalize dig xs (w+j+1)=x;generalize dig xs (w+j)=y;have hp:2 ^ s*2 ^ (32 - s)=4294967296:=by rw [← Nat.pow_add,show s+(32 - s)=32 by omega]
 have:y+4294967296*(x+4294967296*R)=(x*4294967296+y)+2 ^ s*(2 ^ (32 - s)*4294967296*R):=by
  rw [show 2 ^ s*(2 ^ (32 - s)*4294967296*R)=(2 ^ s*2 ^ (32 - s))*4294967296*R by simp only [Nat.mul_assoc],hp];omega
 rw [this,Nat.add_mul_div_left _ _ (Nat.pow_pos dC)];rw [show 2 ^ (32 - s)*4294967296*R=4294967296*(2 ^ (32 - s)*R) by rw [Nat.mul_comm (2 ^ (32 - s)),Nat.mul_assoc],Nat.add_mul_mod_self_left]
open Go.Proofs
def dgE(d:Dig):List SV:=[.val (.int .u32 (d.val:Int))]
abbrev u32(n:Int):SV:=.val (.int .u32 n)
abbrev u64(n:Int):SV:=.val (.int .u64 n)
abbrev kN(xs:List Dig):Mem:=.arr 125 dgE 1 xs
theorem kd(xs:List Dig):u9 (kN xs):=fun _ _=>rfl
theorem zT(xs:List Dig):ul (kN xs):=fun _ _=>rfl
theorem zhc(e:Int):IntKind.u32.wrap e=e % 4294967296:=rfl
theorem ju(e:Int):IntKind.u64.wrap e=e % 18446744073709551616:=rfl
theorem vo(d:Dig):[d].length=1/\1<=281474976710656/\1*1<=16777216/\0 < 1/\∀x∈[d],(dgE x).length=1/\z8 (dgE x)=true/\kB.flats (dgE x)=true:=
 ⟨rfl,dC,dC,dC,fun _ _=>⟨rfl,rfl,rfl⟩⟩
theorem vg:([]:List Dig).length=0/\0<=281474976710656/\0*1<=16777216/\0 < 1/\∀x∈([]:List Dig),(dgE x).length=1/\z8 (dgE x)=true/\kB.flats (dgE x)=true:=
 ⟨rfl,dC,dC,dC,fun _ _=>⟨rfl,rfl,rfl⟩⟩
theorem zas{xs ys:List Dig}(h:xs.length+ys.length<=2000000000):((xs.length+ys.length:Int)*(4:Nat)<=140737488355328/\xs.length+ys.length<=281474976710656/\0 < 1/\∀x∈ys,(dgE x).length=1):=
 ⟨oM,oM,dC,fun _ _=>rfl⟩
def zcK(a b:Nat):Int:=if a < b then -1 else if b < a then 1 else 0
theorem zd5{a b:Nat}:zcK a b < 0↔a < b:=by
 unfold zcK;split
 ·simp_all
 ·split <;> simp_all
theorem zd6{a b:Nat}:0 < zcK a b↔b < a:=by
 unfold zcK;split
 ·simp;omega
 ·split <;> simp_all
theorem kb(a:List Dig)(ha:a.length<=1000000000):zf Try.prog 100 [.sl dgE a] [] (.own 0) [(0,kN (zu (val a)))]:=by
 refine zZ tok mix Try.func100 rfl rfl rfl ?_;intro hl0;refine ⟨Nat,fun n=>⟨[(3,i64 n),(0,.sl dgE a)],[],0,34,0⟩,fun n=>n<=a.length/\∀i,n<=i->dig a i=0,fun n=>n,a.length,?_,?_,?_⟩
 ·exact ⟨Nat.le_refl _,fun i h=>uC h⟩
 ·exact z3 []
 rintro n ⟨h1,h2⟩
 have post:∀(n:Nat),n<=a.length->(∀i,n<=i->dig a i=0)->(n=0∨dig a (n - 1)≠0)->zu (val a)=a.take n:=fun n h1 h2 h3=>(zdr h3 h1 h2).symm
 refine Br.mk (fun h3=>?_) (fun h3=>?_)
 ·refine Ar.o ?_;refine Ob.o ?_;intro x hx;refine Br.mk (fun h4=>?_) (fun h4=>?_)
  ·refine Ar.o ?_;refine ⟨n - 1,⟨oM,fun i hi=>?_⟩,qN [] ⟨congrArg (fun n=>some (i64 n)) oM,rfl,trivial⟩ trivial,by dsimp only;omega⟩
   by_cases e:i=n - 1
   ·subst e;rw [show ((n:Int) - 1).toNat=n - 1 by omega] at hx;rw [ky hx];omega
   ·exact h2 i oM
  ·have h5:dig a (n - 1)≠0:=by
    rw [show ((n:Int) - 1).toNat=n - 1 by omega] at hx;rw [ky hx];omega
   rw [post n h1 h2 (.inr h5)];refine ⟨Dig,dgE,[],rfl,Ob.mk vg ?_⟩;refine ⟨Nat,fun i=>⟨[(5,i64 i),(3,i64 n),(4,.own 0),(0,.sl dgE a)],[(0,kN (a.take i))],1,34,0⟩,fun i=>i<=n,fun i=>n - i,0,?_,?_,?_⟩
   ·exact Nat.zero_le _
   ·exact z3 [(0,some 0)]
   rintro i hi
   have hi:i<=n:=hi;refine Br.mk (fun k1=>?_) (fun k1=>?_)
   ·refine Ob.o ?_;intro y hy;refine ⟨Dig,dgE,[y],rfl,Ob.mk (vo y) ?_⟩;refine ⟨_,rfl,Ob.mk (zas (by simp;omega)) ?_⟩;refine Ar.o ?_
    refine ⟨i+1,by show i+1<=n;omega,qh [(0,some 2)] rfl rfl rfl ⟨rfl,rfl,rfl,rfl,trivial⟩
     ⟨congrArg (fun l=>some (kN l)) (by rw [List.take_add_one,show a[i]? =some y from hy];rfl),trivial⟩,by dsimp only;omega⟩
   ·have hin:i=n:=by omega
    subst hin;exact ⟨some 0,.own _ rfl,rfl,fun _ _=>rfl⟩
 ·have h5:n=0:=by omega
  rw [post n h1 h2 (.inl h5)];refine ⟨Dig,dgE,[],rfl,Ob.mk vg ?_⟩;refine ⟨Nat,fun i=>⟨[(5,i64 i),(3,i64 n),(4,.own 0),(0,.sl dgE a)],[(0,kN (a.take i))],1,34,0⟩,fun i=>i<=n,fun i=>n - i,0,?_,?_,?_⟩
  ·exact Nat.zero_le _
  ·exact z3 [(0,some 0)]
  rintro i hi
  have hi:i<=n:=hi;refine Br.mk (fun k1=>?_) (fun k1=>?_)
  ·refine Ob.o ?_;intro y hy;refine ⟨Dig,dgE,[y],rfl,Ob.mk (vo y) ?_⟩;refine ⟨_,rfl,Ob.mk (zas (by simp;omega)) ?_⟩;refine Ar.o ?_
   refine ⟨i+1,by show i+1<=n;omega,qh [(0,some 2)] rfl rfl rfl ⟨rfl,rfl,rfl,rfl,trivial⟩
    ⟨congrArg (fun l=>some (kN l)) (by rw [List.take_add_one,show a[i]? =some y from hy];rfl),trivial⟩,by dsimp only;omega⟩
  ·have hin:i=n:=by omega
   subst hin;exact ⟨some 0,.own _ rfl,rfl,fun _ _=>rfl⟩
theorem kE(a:List Dig)(i:Int)(hi:0<=i):zf Try.prog 104 [.sl dgE a,i64 i] [] (u64 (dig a i.toNat)) []:=by
 refine zk tok mix Try.func104 rfl rfl rfl ?_;refine Br.mk (fun h=>?_) (fun h=>?_)
 ·omega
 intro hl;refine Br.mk (fun h2=>?_) (fun h2=>?_)
 ·exact zz (by rw [uC oM];rfl)
 ·refine Ob.o ?_;intro x hx;have:=x.isLt;refine Ar.o ?_;exact zz (by rw [ky hx])
theorem uG{n:Nat}{e:Int}(h:e=n):((dof n).val:Int)=IntKind.u32.wrap e:=by rw [zhc,kK,h];omega
theorem zcL{a b:List Dig}{j:Nat}(h:∀i,j+1<=i->dig a i=dig b i)(hl:dig a j < dig b j):val a < val b:=by
 have e1:=kI a j;have e2:=kI b j;have e3:=qm a j;have e4:=zC a j;have e5:=zC b j;have e6:=yC h;have:val (a.drop j)+1<=val (b.drop j):=oM;have:=Nat.mul_le_mul_left (4294967296 ^ j) this;rw [Nat.mul_add] at this;omega
theorem zfD(a b:List Dig)(ha:a.length<=1000000000)(hb:b.length<=1000000000):
  zf Try.prog 109 [.sl dgE a,.sl dgE b] [] (i64 (zcK (val a) (val b))) []:=by
 refine zk tok mix Try.func109 rfl rfl rfl ?_;intro hl1 hl2;refine Ar.fit (by simp only [zaG];omega) ?_;refine ⟨Nat,fun j=>⟨[(5,i64 ((j:Int) - 1)),(0,.sl dgE a),(1,.sl dgE b)],[],0,30,0⟩,fun j=>j<=1000000000/\∀i,j<=i->dig a i=dig b i,fun j=>j,max a.length b.length,?_,?_,?_⟩
 ·exact ⟨oM,fun i hi=>by rw [uC oM,uC oM]⟩
 ·exact qN [] ⟨congrArg (fun n=>some (i64 n)) (by simp only [zaG];omega),rfl,rfl,trivial⟩ trivial
 rintro j ⟨h1,h2⟩
 refine Br.mk (fun h3=>?_) (fun h3=>?_)
 ·have e:((j:Int) - 1).toNat=j - 1:=by omega
  have h2':∀i,j - 1+1<=i->dig a i=dig b i:=fun i hi=>h2 i oM
  refine zc.t (kE a _ oM) ?_;refine zc.t (kE b _ oM) ?_;refine Br.mk (fun h4=>?_) (fun h4=>?_)
  ·have:=zcL h2' (by rw [e] at h4;omega);exact zz (by rw [zcK,if_pos this])
  refine zc.t (kE a _ oM) ?_;refine zc.t (kE b _ oM) ?_;refine Br.mk (fun h5=>?_) (fun h5=>?_)
  ·have:=zcL (fun i hi=>(h2' i hi).symm) (by rw [e] at h5;omega);exact zz (by rw [zcK,if_neg oM,if_pos this])
  refine Ar.o ?_;refine ⟨j - 1,⟨oM,fun i hi=>?_⟩,qN [] ⟨congrArg (fun n=>some (i64 n)) oM,rfl,rfl,trivial⟩ trivial,by dsimp only;omega⟩
  by_cases hij:i=j - 1
  ·subst hij;rw [e] at h4 h5;omega
  ·exact h2 i oM
 ·have hj:j=0:=by omega
  subst hj;have:=zeM fun i=>h2 i (Nat.zero_le _)
  exact zz (by rw [zcK,if_neg oM,if_neg oM])
theorem zhd(a b:List Dig)(ha:a.length<=900000000)(hb:b.length<=900000000):
  zf Try.prog 95 [.sl dgE a,.sl dgE b] [] (.own 0) [(0,kN (zu (val a+val b)))]:=by
 refine zZ tok mix Try.func95 rfl rfl rfl ?_;refine ⟨Dig,dgE,[],rfl,Ob.mk vg ?_⟩
 refine ⟨Nat×List Dig×Nat,fun q=>⟨[(7,i64 q.1),(6,u64 q.2.2),(5,.own 0),(0,.sl dgE a),(1,.sl dgE b)],[(0,kN q.2.1)],1,42,0⟩,
  fun q=>q.1<=max a.length b.length/\q.2.1.length=q.1/\q.2.2<=1/\val q.2.1+4294967296 ^ q.1*q.2.2=val (a.take q.1)+val (b.take q.1),fun q=>max a.length b.length - q.1,(0,[],0),?_,?_,?_⟩
 ·exact ⟨Nat.zero_le _,rfl,Nat.zero_le _,rfl⟩
 ·exact z3 [(0,some 0)]
 rintro ⟨i,out,c⟩ ⟨h1,h2,h3,h4⟩
 dsimp only at h1 h2 h3 h4;intro hl1 hl2;refine Br.mk (fun h5=>?_) (fun h5=>?_)
 ·simp only [zaG] at h5;have d1:=j5 a i;have d2:=j5 b i;refine zc.t (kE a _ oM) ?_;refine zc.t (kE b _ oM) ?_;simp only [Int.toNat_natCast];(iterate 2 refine Ar.o ?_);refine Ar.wrap ?_;refine ⟨Dig,dgE,[dof (dig a i+dig b i+c)],congrArg (fun n=>[u32 n]) (uG oM),Ob.mk (vo _) ?_⟩;refine ⟨_,rfl,Ob.mk (zas (by simp;omega)) ?_⟩;refine Ob.o0 ?_;refine Ar.o ?_
  refine ⟨(i+1,out++[dof (dig a i+dig b i+c)],(dig a i+dig b i+c) / 4294967296),⟨by dsimp only;omega,by simp [h2],by dsimp only;omega,?_⟩,
   qN [(0,some 2)] ⟨rfl,congrArg (fun n=>some (u64 n)) (by dsimp only;omega),rfl,rfl,rfl,trivial⟩ ⟨rfl,trivial⟩,by dsimp only;omega⟩
  dsimp only;rw [jb,h2,kK,zU,zU,Nat.pow_succ];have e:=Nat.div_add_mod (dig a i+dig b i+c) 4294967296;generalize (dig a i+dig b i+c) / 4294967296=x at*;generalize (dig a i+dig b i+c) % 4294967296=y at*;generalize 4294967296 ^ i=p at*
  grind
 ·simp only [zaG] at h5;have hi:i=max a.length b.length:=oM;refine Ar.wrap ?_;refine ⟨Dig,dgE,[dof c],congrArg (fun n=>[u32 n]) (uG rfl),Ob.mk (vo _) ?_⟩;refine ⟨_,rfl,Ob.mk (zas (by simp;omega)) ?_⟩;refine zc.fresh _ _ (kb _ (by simp;omega)) rfl (kd _) (.inr (zT _)) ?_;refine ⟨some 3,.own _ rfl,?_,fun _ _=>rfl⟩
  have e:val (out++[dof c])=val a+val b:=by
   rw [jb,h2,kK,Nat.mod_eq_of_lt oM,h4,kg oM,kg oM]
  rw [← e];rfl
theorem jv(a:List Dig)(ha:a.length<=1000000000):zf Try.prog 100 [.sl dgE a] [] (.sl dgE (zu (val a))) []:=
 (kb a ha).plain rfl
theorem zbQ(a b:List Dig)(ha:a.length<=900000000)(hb:b.length<=900000000):
  zf Try.prog 95 [.sl dgE a,.sl dgE b] [] (.sl dgE (zu (val a+val b))) []:=(zhd a b ha hb).plain rfl
theorem zfE(a b:List Dig)(ha:a.length<=900000000)(hb:b.length<=900000000):
  zf Try.prog 110 [.sl dgE a,.sl dgE b] [] (.tup [.own 0,pr (val b<=val a)]) [(0,kN (zu (val a - val b)))]:=by
 refine zZ tok mix Try.func110 rfl rfl rfl ?_;refine zc.t (zfD a b oM oM) ?_;refine Br.mk (fun h=>?_) (fun h=>?_)
 ·have hlt:val a < val b:=zd5.1 h;refine ⟨none,ja (.cons (.nil rfl) (.cons (.le _ _ (zE oM) rfl) .nil)),?_⟩;show zu (val a - val b)=[];rw [Nat.sub_eq_zero_of_le oM];exact qn
 have hle:val b<=val a:=Nat.le_of_not_lt fun h'=>h (zd5.2 h')
 refine ⟨Dig,dgE,[],rfl,Ob.mk vg ?_⟩
 refine ⟨Nat×List Dig×Nat,fun ⟨i,out,c⟩=>⟨[(8,i64 i),(7,u64 c),(6,.own 0),(0,.sl dgE a),(1,.sl dgE b)],[(0,kN out)],1,41,0⟩,
  fun q=>q.1<=a.length/\q.2.1.length=q.1/\q.2.2<=1/\val q.2.1+val (b.take q.1)=val (a.take q.1)+4294967296 ^ q.1*q.2.2,fun q=>a.length - q.1,(0,[],0),?_,?_,?_⟩
 ·exact ⟨Nat.zero_le _,rfl,Nat.zero_le _,rfl⟩
 ·exact z3 [(0,some 0)]
 rintro ⟨i,out,c⟩ ⟨h1,h2,h3,h4⟩
 dsimp only at h1 h2 h3 h4;intro hl1;refine Br.mk (fun h5=>?_) (fun h5=>?_)
 ·have d1:=j5 a i;have d2:=j5 b i;refine zc.t (kE a _ oM) ?_;simp only [Int.toNat_natCast];refine Ar.o ?_;refine zc.t (kE b _ oM) ?_;simp only [Int.toNat_natCast];(iterate 2 refine Ar.o ?_);refine Ar.wrap ?_;refine ⟨Dig,dgE,[dof (4294967296+dig a i - dig b i - c)],congrArg (fun n=>[u32 n]) (uG oM),Ob.mk (vo _) ?_⟩;refine ⟨_,rfl,Ob.mk (zas (by simp;omega)) ?_⟩;refine Ob.o0 ?_;refine Ar.fit (by simp only [Int.reducePow];omega) ?_;refine Ar.o ?_
  refine ⟨(i+1,out++[dof (4294967296+dig a i - dig b i - c)],1 - (4294967296+dig a i - dig b i - c) / 4294967296),⟨by dsimp only;omega,by simp [h2],by dsimp only;omega,?_⟩,
   qN [(0,some 2)] ⟨rfl,congrArg (fun n=>some (u64 n)) (by dsimp only;omega),rfl,rfl,rfl,trivial⟩ ⟨rfl,trivial⟩,by dsimp only;omega⟩
  dsimp only;rw [jb,h2,kK,zU,zU,Nat.pow_succ];have e:(4294967296+dig a i - dig b i - c) % 4294967296+dig b i+c=dig a i+4294967296*(1 - (4294967296+dig a i - dig b i - c) / 4294967296):=oM;generalize 1 - (4294967296+dig a i - dig b i - c) / 4294967296=x at*;generalize (4294967296+dig a i - dig b i - c) % 4294967296=y at*;generalize 4294967296 ^ i=p at*
  have e2:p*y+p*dig b i+p*c=p*dig a i+p*4294967296*x:=by
   rw [← Nat.mul_add,← Nat.mul_add,e,Nat.mul_add,Nat.mul_assoc]
  omega
 ·have hi:i=a.length:=by omega
  refine zc.fresh _ _ (kb _ oM) rfl (kd _) (.inr (zT _)) ?_;refine ⟨some 1,ja (.cons (.own _ rfl) (.cons (.le _ _ (yS hle) rfl) .nil)),?_,fun _ _=>rfl⟩
  have e:val out=val a - val b:=by
   subst hi;have e0:val (a.take a.length)=val a:=kg (Nat.le_refl _);rw [e0] at h4;have e1:=kI b a.length;have e2:=kR a
   have e3:val (b.drop a.length)=0:=by
    rcases Nat.eq_zero_or_pos (val (b.drop a.length)) with h | h
    ·exact h
    ·have:=Nat.mul_le_mul_left (4294967296 ^ a.length) h;omega
   have e4:=kR out;rw [h2] at e4;rw [e3] at e1;have:c=0∨c=1:=oM
   rcases this with rfl | rfl <;> omega
  rw [← e];rfl
theorem zgu(a b:List Dig)(ha:a.length<=900000000)(hb:b.length<=900000000):
  zf Try.prog 110 [.sl dgE a,.sl dgE b] [] (.tup [.sl dgE (zu (val a - val b)),pr (val b<=val a)]) []:=(zfE a b ha hb).plain rfl
theorem zfF{x y c:Nat}(hx:x < 4294967296)(hy:y < 4294967296)(hc:c < 4294967296):x*y+c<=18446744069414584320:=by
 have:x*y<=4294967295*4294967295:=Nat.mul_le_mul oM oM;omega
theorem zbi{x y:Nat}(hx:x < 4294967296)(hy:y < 4294967296):x*y<=18446744065119617025:=by
 have:x*y<=4294967295*4294967295:=Nat.mul_le_mul oM oM;omega
theorem zfG{p q x y z c u v w o o0 r:Nat}(h4:o+p*q*c=o0+p*(x*w))(hs:r+p*q*z=o+p*q*v)(e:4294967296*u+v=x*y+z+c):
  r+p*q*4294967296*u=o0+p*(x*(w+q*y)):=by grind
theorem zfH(a:List Dig)(d:Nat)(ha:a.length<=900000000)(hd:d < 4294967296):
  zf Try.prog 108 [.sl dgE a,u64 d] [] (.own 0) [(0,kN (zu (val a*d)))]:=by
 refine zZ tok mix Try.func108 rfl rfl rfl ?_;refine ⟨Dig,dgE,[],rfl,Ob.mk vg ?_⟩
 refine ⟨Nat×List Dig×Nat,fun ⟨i,out,c⟩=>⟨[(7,i64 i),(6,u64 c),(5,.own 0),(0,.sl dgE a),(1,u64 d)],[(0,kN out)],1,39,0⟩,
  fun q=>q.1<=a.length/\q.2.1.length=q.1/\q.2.2 < 4294967296/\val q.2.1+4294967296 ^ q.1*q.2.2=val (a.take q.1)*d,fun q=>a.length - q.1,(0,[],0),?_,?_,?_⟩
 ·exact ⟨Nat.zero_le _,rfl,dC,by simp [val]⟩
 ·exact z3 [(0,some 0)]
 rintro ⟨i,out,c⟩ ⟨h1,h2,h3,h4⟩
 dsimp only at h1 h2 h3 h4;intro hl1;refine Br.mk (fun h5=>?_) (fun h5=>?_)
 ·refine Ob.o ?_;intro x hx;have hx:a[i]? =some x:=hx;have dx:=ky hx;have hm:=zfF x.isLt hd h3;have hm0:=zbi x.isLt hd;have hxl:=x.isLt;(iterate 3 refine Ar.o ?_);refine Ar.wrap ?_;refine ⟨Dig,dgE,[dof (x.val*d+c)],congrArg (fun n=>[u32 n]) (uG oM),Ob.mk (vo _) ?_⟩;refine ⟨_,rfl,Ob.mk (zas (by simp;omega)) ?_⟩;refine Ob.o0 ?_;refine Ar.o ?_
  refine ⟨(i+1,out++[dof (x.val*d+c)],(x.val*d+c) / 4294967296),⟨by dsimp only;omega,by simp [h2],by dsimp only;omega,?_⟩,
   qN [(0,some 2)] ⟨rfl,congrArg (fun n=>some (u64 n)) (by dsimp only;omega),rfl,rfl,rfl,trivial⟩ ⟨rfl,trivial⟩,by dsimp only;omega⟩
  dsimp only;rw [jb,h2,kK,zU,Nat.pow_succ,dx];have e:=Nat.div_add_mod (x.val*d+c) 4294967296;generalize (x.val*d+c) / 4294967296=u at*;generalize (x.val*d+c) % 4294967296=v at*;generalize 4294967296 ^ i=p at*;generalize x.val=x at*;generalize val (a.take i)=w at*;clear hm hm0
  grind
 ·have hi:i=a.length:=by omega
  refine Ar.wrap ?_;refine ⟨Dig,dgE,[dof c],congrArg (fun n=>[u32 n]) (uG rfl),Ob.mk (vo _) ?_⟩;refine ⟨_,rfl,Ob.mk (zas (by simp;omega)) ?_⟩;refine zc.fresh _ _ (kb _ (by simp;omega)) rfl (kd _) (.inr (zT _)) ?_;refine ⟨some 3,.own _ rfl,?_,fun _ _=>rfl⟩
  have e:val (out++[dof c])=val a*d:=by
   rw [jb,h2,kK,Nat.mod_eq_of_lt oM,h4,kg oM]
  rw [← e];rfl
theorem zeO(a:List Dig)(d:Nat)(ha:a.length<=900000000)(hd:d < 4294967296):
  zf Try.prog 108 [.sl dgE a,u64 d] [] (.sl dgE (zu (val a*d))) []:=(zfH a d ha hd).plain rfl
theorem zhe(a b:List Dig)(ha:a.length<=400000000)(hb:b.length<=400000000):
  zf Try.prog 97 [.sl dgE a,.sl dgE b] [] (.own 0) [(0,kN (zu (val a*val b)))]:=by
 refine zZ tok mix Try.func97 rfl rfl rfl ?_;intro hl1 hl2;(iterate 2 refine Ar.o ?_);refine ⟨Dig,dgE,0,rfl,Ob.o38 ?_⟩
 refine ⟨Nat×List Dig,fun ⟨i,out⟩=>⟨[(6,i64 i),(5,.own 0),(0,.sl dgE a),(1,.sl dgE b)],[(0,kN out)],1,69,0⟩,
  fun q=>q.1<=a.length/\q.2.length=a.length+b.length+1/\val q.2=val (a.take q.1)*val b/\∀j,q.1+b.length<=j->dig q.2 j=0,fun q=>a.length - q.1,(0,List.replicate (a.length+b.length+1) 0),?_,?_,?_⟩
 ·exact ⟨Nat.zero_le _,by simp,by simp [zbf,val],fun j _=>zaP _ _⟩
 ·exact zi [(0,some 0)] ⟨congrArg (fun n=>some (kN (List.replicate n 0))) oM,trivial⟩
 rintro ⟨i,out0⟩ ⟨h1,h2,h3,h4⟩
 dsimp only at h1 h2 h3 h4;intro hl3;refine Br.mk (fun h5=>?_) (fun h5=>?_)
 ·refine ⟨Nat×List Dig×Nat,fun ⟨k,out,c⟩=>⟨[(8,i64 k),(7,u64 c),(6,i64 i),(5,.own 0),(0,.sl dgE a),(1,.sl dgE b)],[(0,kN out)],1,69,0⟩,
   fun q=>q.1<=b.length/\q.2.1.length=a.length+b.length+1/\q.2.2 < 4294967296/\val q.2.1+4294967296 ^ (i+q.1)*q.2.2=val out0+4294967296 ^ i*(dig a i*val (b.take q.1))/\∀j,i+b.length<=j->dig q.2.1 j=0,fun q=>b.length - q.1,(0,out0,0),?_,?_,?_⟩
  ·exact ⟨Nat.zero_le _,h2,by dsimp only;omega,by simp [val],h4⟩
  ·exact z3 [(0,some 0)]
  rintro ⟨k,out,c⟩ ⟨g1,g2,g3,g4,g5⟩
  dsimp only at g1 g2 g3 g4 g5;intro hl4;refine Br.mk (fun g6=>?_) (fun g6=>?_)
  ·refine Dr.k ?_;refine Ob.o ?_;intro x hx;have hx:a[i]? =some x:=hx;have dx:=ky hx;have hxl:=x.isLt;refine Ar.o ?_;refine Ob.o ?_;intro y hy;have hy:b[k]? =some y:=hy;have dy:=ky hy;have hyl:=y.isLt;refine Ar.o ?_;have hm0:=zbi hxl hyl;(iterate 2 refine Ar.o ?_);refine Ob.o ?_;refine Ob.o ?_;intro z hz;rw [show ((i:Int)+k).toNat=i+k by omega] at hz;have dz:=ky hz;have hzl:=z.isLt;(iterate 4 refine Ar.o ?_);refine Ar.wrap ?_;refine Ob.o ?_;refine Ob.o ?_;intro z' hz'
   refine ⟨dof (x.val*y.val+z.val+c),congrArg (fun n=>[u32 n]) (uG oM),?_⟩;refine Ob.o0 ?_;refine Ar.o ?_
   refine ⟨(k+1,out.set (i+k) (dof (x.val*y.val+z.val+c)),(x.val*y.val+z.val+c) / 4294967296),⟨by dsimp only;omega,by simp [g2],by dsimp only;omega,?_,?_⟩,
    qN [(0,some 0)] ⟨rfl,congrArg (fun n=>some (u64 n)) (by dsimp only;omega),rfl,rfl,rfl,rfl,trivial⟩ ⟨congrArg (fun n=>some (kN (out.set n _))) oM,trivial⟩,by dsimp only;omega⟩
   ·dsimp only;have hs:=zbO out (i+k) (dof (x.val*y.val+z.val+c)) oM;rw [kK,dz] at hs;rw [zU,dy,← Nat.add_assoc i k 1,Nat.pow_succ];rw [dx] at g4 ⊢;have e:=Nat.div_add_mod (x.val*y.val+z.val+c) 4294967296;rw [Nat.pow_add] at g4 hs ⊢;exact zfG g4 hs e
   ·intro j hj;dsimp only;rw [zbN,if_neg oM];exact g5 j hj
  ·have hk:k=b.length:=by omega
   intro hl5;refine Ar.o ?_;refine Ar.wrap ?_;refine Ob.o ?_;refine Ob.o ?_;intro z' hz';refine ⟨dof c,congrArg (fun n=>[u32 n]) (uG rfl),?_⟩;refine Ar.o ?_
   refine ⟨(i+1,out.set (i+b.length) (dof c)),⟨by dsimp only;omega,by simp [g2],?_,?_⟩,
    zi [(0,some 0)] ⟨congrArg (fun n=>some (kN (out.set n _))) oM,trivial⟩,by dsimp only;omega⟩
   ·dsimp only;have hs:=zbO out (i+b.length) (dof c) oM;rw [kK,g5 _ (Nat.le_refl _),Nat.mod_eq_of_lt g3] at hs;rw [hk,kg (Nat.le_refl _),h3] at g4;rw [zU];generalize val (out.set (i+b.length) _)=r at*;generalize 4294967296 ^ i=p at*;generalize 4294967296 ^ (i+b.length)=q at*;generalize val (a.take i)=w at*;generalize dig a i=x at*;generalize val out=o at*;clear h4 g5
    grind
   ·intro j hj;dsimp only;rw [zbN,if_neg oM];exact g5 j oM
 ·have hi:i=a.length:=by omega
  refine zc.fresh _ _ (kb _ oM) rfl (kd _) (.inr (zT _)) ?_;refine ⟨some 1,.own _ rfl,?_,fun _ _=>rfl⟩;rw [hi,kg (Nat.le_refl _)] at h3;rw [← h3];rfl
theorem zgv(a b:List Dig)(ha:a.length<=400000000)(hb:b.length<=400000000):
  zf Try.prog 97 [.sl dgE a,.sl dgE b] [] (.sl dgE (zu (val a*val b))) []:=(zhe a b ha hb).plain rfl
end Go.Gs
