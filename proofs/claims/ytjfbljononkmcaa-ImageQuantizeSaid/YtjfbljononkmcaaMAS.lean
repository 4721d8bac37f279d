/- Rows of digits of base 2^32, least significant digit first, and the natural numbers that they stand for. -/
import Derived.Test.YtjfbljononkmcaaMA
import Derived.Test.YtjfbljononkmcaaMAR
set_option maxRecDepth 100000
set_option maxHeartbeats 8000000
set_option linter.all false
namespace Go.Gs
abbrev Dig:=Fin 4294967296
def val:List Dig->Nat
 | []=>0
 | d::r=>d.val+4294967296*val r
def zr(n:Nat):List Dig:=
 if h:n=0 then [] else ⟨n % 4294967296,Nat.mod_lt _ dC⟩::zr (n / 4294967296)
termination_by n
decreasing_by exact Nat.div_lt_self (Nat.pos_of_ne_zero h) dC
def dig(xs:List Dig)(i:Nat):Nat:=match xs[i]? with
 | some d=>d.val
 | none=>0
theorem zdg(i:Nat):0 < 4294967296 ^ i:=Nat.pow_pos dC
theorem j8(xs:List Dig)(i:Nat):dig xs i < 4294967296:=by
 unfold dig;split
 ·exact Fin.isLt _
 ·decide
theorem kB{xs:List Dig}{i:Nat}{d:Dig}(h:xs[i]? =some d):dig xs i=d.val:=by simp [dig,h]
theorem uK{xs:List Dig}{i:Nat}(h:xs.length<=i):dig xs i=0:=by simp [dig,h]
theorem ua(d:Dig)(r:List Dig):dig (d::r) 0=d.val:=rfl
theorem qD(d:Dig)(r:List Dig)(i:Nat):dig (d::r) (i+1)=dig r i:=by simp [dig]
theorem zgf(xs:List Dig)(k i:Nat):dig (xs.take k) i=if i < k then dig xs i else 0:=by
 by_cases h:i < k <;> simp [dig,List.getElem?_take,h]
theorem zcn(xs:List Dig)(i j:Nat)(d:Dig):dig (xs.set i d) j=if i=j/\i < xs.length then d.val else dig xs j:=by
 simp only [dig,List.getElem?_set]
 by_cases h:i=j
 ·subst h
  by_cases h2:i < xs.length
  ·simp [h2]
  ·simp [h2];
 ·simp [h]
theorem zd8(xs ys:List Dig)(i:Nat):dig (xs++ys) i=if i < xs.length then dig xs i else dig ys (i - xs.length):=by
 by_cases h:i < xs.length <;> simp [dig,List.getElem?_append,h]
theorem zbc(n i:Nat):dig (List.replicate n (0:Dig)) i=0:=by
 simp only [dig,List.getElem?_replicate];by_cases h:i < n <;> simp [h]
theorem zeH:val []=0:=rfl
theorem qF(d:Dig)(r:List Dig):val (d::r)=d.val+4294967296*val r:=rfl
theorem uj:∀xs ys:List Dig,val (xs++ys)=val xs+4294967296 ^ xs.length*val ys
 | [],ys=>by simp [val]
 | x::xs,ys=>by
  simp only [List.cons_append,val,uj xs ys,List.length_cons,Nat.pow_succ]
  grind
theorem kT:∀xs:List Dig,val xs < 4294967296 ^ xs.length
 | []=>by simp [val]
 | x::xs=>by
  have h:=kT xs;have:=x.isLt;simp only [val,List.length_cons,Nat.pow_succ];omega
theorem kK(xs:List Dig)(i:Nat):val xs=val (xs.take i)+4294967296 ^ i*val (xs.drop i):=by
 by_cases h:i<=xs.length
 ·have:=uj (xs.take i) (xs.drop i);rw [List.take_append_drop,List.length_take,Nat.min_eq_left h] at this;exact this
 ·rw [List.take_of_length_le oM,List.drop_eq_nil_of_le oM];simp [val]
theorem qk(xs:List Dig)(i:Nat):val (xs.take i) < 4294967296 ^ i:=by
 have h:=kT (xs.take i);have:(xs.take i).length<=i:=by simp;omega
 exact Nat.lt_of_lt_of_le h (Nat.pow_le_pow_right dC this)
theorem zB(xs:List Dig)(i:Nat):val (xs.drop i)=dig xs i+4294967296*val (xs.drop (i+1)):=by
 by_cases h:i < xs.length
 ·rw [List.drop_eq_getElem_cons h,qF,kB (List.getElem?_eq_getElem h)]
 ·rw [List.drop_eq_nil_of_le oM,List.drop_eq_nil_of_le oM,uK oM];rfl
theorem zV(xs:List Dig)(i:Nat):val (xs.take (i+1))=val (xs.take i)+4294967296 ^ i*dig xs i:=by
 have h1:=kK xs i;have h2:=kK xs (i+1);have h3:=zB xs i;rw [Nat.pow_succ] at h2;rw [h3] at h1;generalize 4294967296 ^ i=q at*;generalize val (xs.take (i+1))=a at*;generalize val (xs.take i)=b at*;generalize val (xs.drop (i+1))=c at*;have:q*(dig xs i+4294967296*c)=q*dig xs i+q*4294967296*c:=by rw [Nat.mul_add,Nat.mul_assoc]
 omega
theorem kq{xs:List Dig}{i:Nat}(h:xs.length<=i):val (xs.take i)=val xs:=by rw [List.take_of_length_le h]
theorem zbd(xs:List Dig):val (xs.take 0)=0:=rfl
theorem kr{xs:List Dig}{i:Nat}(h:xs.length<=i):val (xs.drop i)=0:=by rw [List.drop_eq_nil_of_le h];rfl
theorem zco:∀(xs:List Dig) (i:Nat) (d:Dig),i < xs.length->val (xs.set i d)+4294967296 ^ i*dig xs i=val xs+4294967296 ^ i*d.val
 | [],i,d,h=>by simp at h
 | x::xs,0,d,_=>by simp only [List.set_cons_zero,val,ua];omega
 | x::xs,i+1,d,h=>by
  have ih:=zco xs i d (by simpa using h);simp only [List.set_cons_succ,val,qD,Nat.pow_succ]
  grind
theorem jb(xs:List Dig)(d:Dig):val (xs++[d])=val xs+4294967296 ^ xs.length*d.val:=by
 rw [uj];simp [val]
theorem zbE(n:Nat):val (List.replicate n (0:Dig))=0:=by
 induction n with
 | zero=>rfl
 | succ n ih=>rw [List.replicate_succ,qF,ih];rfl
theorem ql:zr 0=[]:=by unfold zr;rfl
theorem uL{n:Nat}(h:n≠0):zr n=⟨n % 4294967296,Nat.mod_lt _ dC⟩::zr (n / 4294967296):=by
 rw [zr];simp [h]
theorem zz(n:Nat):val (zr n)=n:=by
 induction n using Nat.strongRecOn with
 | _ n ih=>
  by_cases h:n=0
  ·subst h;rw [ql];rfl
  ·rw [uL h,qF,ih _ (Nat.div_lt_self (Nat.pos_of_ne_zero h) dC)];show n % 4294967296+_=n;omega
def zdh(xs:List Dig):Prop:=xs=[]∨dig xs (xs.length - 1)≠0
theorem ub:∀{xs:List Dig},zdh xs->xs≠[]->val xs≠0
 | [],_,h=>absurd rfl h
 | [x],h,_=>by
  rcases h with h | h
  ·cases h
  ·have:dig [x] ([x].length - 1)=x.val:=rfl;simp only [val];omega
 | x::y::r,h,_=>by
  have h':zdh (y::r):=by
   rcases h with h | h
   ·cases h
   ·right
    simp only [List.length_cons,Nat.add_sub_cancel] at h ⊢;rw [qD] at h;exact h
  have:=ub h' (by simp);rw [qF];omega
theorem zdi:∀{xs:List Dig},zdh xs->zr (val xs)=xs
 | [],_=>ql
 | x::r,h=>by
  have hp:=ub h (by simp)
  have h':zdh r:=by
   rcases h with h | h
   ·cases h
   ·cases r with
    | nil=>exact .inl rfl
    | cons y r=>
     right
     simp only [List.length_cons,Nat.add_sub_cancel] at h ⊢;rw [qD] at h;exact h
  have hx:=x.isLt;rw [uL hp];have e1:val (x::r) % 4294967296=x.val:=by rw [qF];omega
  have e2:val (x::r) / 4294967296=val r:=by rw [qF];omega
  rw [e2,zdi h'];congr 1;exact Fin.ext e1
theorem uk(n:Nat):zdh (zr n):=by
 induction n using Nat.strongRecOn with
 | _ n ih=>
  by_cases h:n=0
  ·subst h;rw [ql];exact .inl rfl
  ·have ih:=ih _ (Nat.div_lt_self (Nat.pos_of_ne_zero h) (show 1 < 4294967296 by decide))
   right
   rw [uL h]
   rcases ih with ih | ih
   ·have e:=zz (n / 4294967296);rw [ih] at e ⊢;simp only [val] at e;show n % 4294967296≠0;omega
   ·by_cases he:zr (n / 4294967296)=[]
    ·rw [he] at ih;exact absurd (by rfl) ih
    ·obtain ⟨y,r,he⟩:=List.exists_cons_of_ne_nil he;rw [he] at ih ⊢;simp only [List.length_cons,Nat.add_sub_cancel] at ih ⊢;rw [qD];exact ih
theorem zd9{xs:List Dig}{n:Nat}(h:n=0∨dig xs (n - 1)≠0)(hn:n<=xs.length)(hz:∀i,n<=i->dig xs i=0):xs.take n=zr (val xs):=by
 have e:val xs=val (xs.take n):=by
  rw [kK xs n]
  have:val (xs.drop n)=0:=by
   have key:∀k,val (xs.drop (n+k))=0∨k<=xs.length:=fun k=>by
    by_cases hk:k<=xs.length
    ·exact .inr hk
    ·exact .inl (kr oM)
   have down:∀j,val (xs.drop (n+(xs.length - j)))=0:=by
    intro j
    induction j with
    | zero=>exact kr oM
    | succ j ih=>
     by_cases hj:j < xs.length
     ·rw [zB,hz _ oM,show n+(xs.length - (j+1))+1=n+(xs.length - j) by omega,ih]
     ·rw [show n+(xs.length - (j+1))=n+(xs.length - j) by omega];exact ih
   have:=down xs.length
   simpa using this
  rw [this];simp
 rw [e,zdi]
 by_cases hn0:n=0
 ·subst hn0;exact .inl rfl
 ·right
  rw [List.length_take,Nat.min_eq_left hn,zgf,if_pos oM];exact h.resolve_left hn0
theorem qb{n k:Nat}(h:n < 4294967296 ^ k):(zr n).length<=k:=by
 induction k generalizing n with
 | zero=>
   have:n=0:=by simpa using h
   subst this;rw [ql];simp
 | succ k ih=>
  by_cases h0:n=0
  ·subst h0;rw [ql];simp
  ·rw [uL h0,List.length_cons]
   have:n / 4294967296 < 4294967296 ^ k:=by
    rw [Nat.div_lt_iff_lt_mul dC];rwa [Nat.pow_succ] at h
   have:=ih this;omega
theorem zeI{n k:Nat}(h:(zr n).length<=k):n < 4294967296 ^ k:=by
 have:=kT (zr n);rw [zz] at this;exact Nat.lt_of_lt_of_le this (Nat.pow_le_pow_right dC h)
theorem j9(xs:List Dig):(zr (val xs)).length<=xs.length:=qb (kT xs)
theorem yF{n:Nat}:zr n=[]↔n=0:=by
 constructor
 ·intro h;have:=zz n;rw [h] at this;exact this.symm
 ·rintro rfl;exact ql
theorem uM{n:Nat}:0 < (zr n).length↔n≠0:=by
 rw [List.length_pos_iff,Ne,yF]
theorem zbF{m n:Nat}(h:m<=n):(zr m).length<=(zr n).length:=qb (Nat.lt_of_le_of_lt h (zeI (Nat.le_refl _)))
theorem yG{xs ys:List Dig}{k:Nat}(h:∀i,k<=i->dig xs i=dig ys i):val (xs.drop k)=val (ys.drop k):=by
 have down:∀j,∀k',k<=k'->max xs.length ys.length<=k'+j->val (xs.drop k')=val (ys.drop k'):=by
  intro j
  induction j with
  | zero=>intro k' _ hk;rw [kr oM,kr oM]
  | succ j ih=>
   intro k' hk hj;rw [zB,zB ys,h k' hk,ih (k'+1) oM oM]
 exact down (max xs.length ys.length) k (Nat.le_refl _) oM
theorem zfu{xs ys:List Dig}(h:∀i,dig xs i=dig ys i):val xs=val ys:=by
 have:=yG (k:=0) (xs:=xs) (ys:=ys) (fun i _=>h i)
 simpa using this
theorem zdj(xs:List Dig)(i:Nat):val (xs.drop i)=val xs / 4294967296 ^ i:=by
 have h1:=kK xs i;have h2:=qk xs i;rw [h1,Nat.add_comm,Nat.mul_add_div (zdg i),Nat.div_eq_of_lt h2,Nat.add_zero]
def dof(n:Nat):Dig:=⟨n % 4294967296,Nat.mod_lt _ dC⟩
theorem kN(n:Nat):(dof n).val=n % 4294967296:=rfl
def ku(n:Nat):Nat:=if n=0 then 0 else n.log2+1
theorem zdk(n:Nat):n < 2 ^ ku n:=by
 unfold ku;split
 ·subst_vars;decide
 ·exact Nat.lt_log2_self
theorem zaO{n:Nat}(h:n≠0):2 ^ (ku n - 1)<=n:=by
 unfold ku;rw [if_neg h];exact Nat.log2_self_le h
theorem zcp{n k:Nat}(h1:n < 2 ^ k)(h2:n≠0)(h3:2 ^ (k - 1)<=n):ku n=k:=by
 have a:=zdk n;have b:=zaO h2;have c:2 ^ (ku n - 1) < 2 ^ k:=Nat.lt_of_le_of_lt b h1;have d:2 ^ (k - 1) < 2 ^ ku n:=Nat.lt_of_le_of_lt h3 a;have c:=(Nat.pow_lt_pow_iff_right (by decide:1 < 2)).1 c;have d:=(Nat.pow_lt_pow_iff_right (by decide:1 < 2)).1 d;have:0 < ku n:=by unfold ku;rw [if_neg h2];omega
 have:k≠0:=by rintro rfl;simp at h1;exact h2 h1
 omega
theorem zea:ku 0=0:=rfl
theorem vn{n:Nat}:0 < ku n↔n≠0:=by
 unfold ku;split <;> omega
theorem uN(k:Nat):4294967296 ^ k=2 ^ (32*k):=by rw [show 4294967296=2 ^ 32 by decide,← Nat.pow_mul]
theorem zfv{n:Nat}(h:2<=n):n.log2=(n / 2).log2+1:=by rw [Nat.log2_def,if_pos h]
theorem zeb{n:Nat}(h:n≠0):ku n=ku (n / 2)+1:=by
 unfold ku;rw [if_neg h]
 by_cases h1:n / 2=0
 ·rw [if_pos h1];have:n=1:=oM;subst this;rfl
 ·rw [if_neg h1,zfv oM]
theorem zbG{xs:List Dig}(hn:dig xs (xs.length - 1)≠0):ku (val xs)=32*(xs.length - 1)+ku (dig xs (xs.length - 1)):=by
 have hl:0 < xs.length:=by
  rcases Nat.eq_zero_or_pos xs.length with h | h
  ·rw [List.length_eq_zero_iff.1 h] at hn;exact absurd rfl hn
  ·exact h
 have e1:=kK xs (xs.length - 1);have e2:=qk xs (xs.length - 1);have e3:=zB xs (xs.length - 1);rw [show xs.length - 1+1=xs.length by omega,kr (Nat.le_refl _),Nat.mul_zero,Nat.add_zero] at e3;rw [e3] at e1;generalize dig xs (xs.length - 1)=t at*;have p1:=zdk t;have p2:=zaO hn;rw [uN] at e1 e2;have p0:0 < 2 ^ (32*(xs.length - 1)):=Nat.pow_pos dC;have np:0 < ku t:=vn.2 hn;refine zcp ?_ ?_ ?_
 ·rw [Nat.pow_add];have:2 ^ (32*(xs.length - 1))*(t+1)<=2 ^ (32*(xs.length - 1))*2 ^ ku t:=Nat.mul_le_mul_left _ p1;rw [Nat.mul_add,Nat.mul_one] at this;omega
 ·have:2 ^ (32*(xs.length - 1))*1<=2 ^ (32*(xs.length - 1))*t:=Nat.mul_le_mul_left _ oM;omega
 ·rw [show 32*(xs.length - 1)+ku t - 1=32*(xs.length - 1)+(ku t - 1) by omega,Nat.pow_add];have:2 ^ (32*(xs.length - 1))*2 ^ (ku t - 1)<=2 ^ (32*(xs.length - 1))*t:=Nat.mul_le_mul_left _ p2;omega
theorem zdl{xs:List Dig}{N:Nat}(h:∀j,j < xs.length->dig xs j=N / 4294967296 ^ j % 4294967296):val xs=N % 4294967296 ^ xs.length:=by
 have key:∀i,i<=xs.length->val (xs.take i)=N % 4294967296 ^ i:=by
  intro i
  induction i with
  | zero=>intro _;rw [Nat.pow_zero,Nat.mod_one];rfl
  | succ i ih=>
   intro hi;rw [zV,ih oM,h i oM,Nat.pow_succ,Nat.mod_mul]
 have:=key xs.length (Nat.le_refl _)
 rwa [List.take_length] at this
theorem zhh(xs:List Dig)(w s j:Nat)(hs:s < 32):val xs / 2 ^ (32*w+s) / 4294967296 ^ j % 4294967296=(dig xs (w+j+1)*4294967296+dig xs (w+j)) / 2 ^ s % 4294967296:=by
 have e:val xs / 2 ^ (32*w+s) / 4294967296 ^ j=val (xs.drop (w+j)) / 2 ^ s:=by
  rw [zdj,Nat.div_div_eq_div_mul,Nat.div_div_eq_div_mul];congr 1;rw [uN,uN,← Nat.pow_add,← Nat.pow_add];congr 1;omega
 rw [e,zB,zB];generalize val (xs.drop (w+j+1+1))=R;generalize dig xs (w+j+1)=x;generalize dig xs (w+j)=y;have hp:2 ^ s*2 ^ (32 - s)=4294967296:=by rw [← Nat.pow_add,show s+(32 - s)=32 by omega]
 have:y+4294967296*(x+4294967296*R)=(x*4294967296+y)+2 ^ s*(2 ^ (32 - s)*4294967296*R):=by
  rw [show 2 ^ s*(2 ^ (32 - s)*4294967296*R)=(2 ^ s*2 ^ (32 - s))*4294967296*R by simp only [Nat.mul_assoc],hp];omega
 rw [this,Nat.add_mul_div_left _ _ (Nat.pow_pos dC)];rw [show 2 ^ (32 - s)*4294967296*R=4294967296*(2 ^ (32 - s)*R) by rw [Nat.mul_comm (2 ^ (32 - s)),Nat.mul_assoc],Nat.add_mul_mod_self_left]
open Go.Proofs
def dgE(d:Dig):List SV:=[.val (.int .u32 (d.val:Int))]
abbrev u32(n:Int):SV:=.val (.int .u32 n)
abbrev u64(n:Int):SV:=.val (.int .u64 n)
abbrev kO(xs:List Dig):Mem:=.arr 125 dgE 1 xs
theorem ka(xs:List Dig):ut (kO xs):=fun _ _=>rfl
theorem zT(xs:List Dig):vQ (kO xs):=fun _ _=>rfl
theorem zh6(e:Int):IntKind.u32.wrap e=e % 4294967296:=rfl
theorem ju(e:Int):IntKind.u64.wrap e=e % 18446744073709551616:=rfl
theorem vN(d:Dig):[d].length=1/\1<=281474976710656/\1*1<=16777216/\0 < 1/\∀x∈[d],(dgE x).length=1/\z0 (dgE x)=true/\kz.flats (dgE x)=true:=
 ⟨rfl,dC,dC,dC,fun _ _=>⟨rfl,rfl,rfl⟩⟩
theorem vF:([]:List Dig).length=0/\0<=281474976710656/\0*1<=16777216/\0 < 1/\∀x∈([]:List Dig),(dgE x).length=1/\z0 (dgE x)=true/\kz.flats (dgE x)=true:=
 ⟨rfl,dC,dC,dC,fun _ _=>⟨rfl,rfl,rfl⟩⟩
theorem zaP{xs ys:List Dig}(h:xs.length+ys.length<=2000000000):((xs.length+ys.length:Int)*(4:Nat)<=140737488355328/\xs.length+ys.length<=281474976710656/\0 < 1/\∀x∈ys,(dgE x).length=1):=
 ⟨oM,oM,dC,fun _ _=>rfl⟩
def zdm(a b:Nat):Int:=if a < b then -1 else if b < a then 1 else 0
theorem zeJ{a b:Nat}:zdm a b < 0↔a < b:=by
 unfold zdm;split
 ·simp_all
 ·split <;> simp_all
theorem zeK{a b:Nat}:0 < zdm a b↔b < a:=by
 unfold zdm;split
 ·simp;omega
 ·split <;> simp_all
theorem z9(a:List Dig)(ha:a.length<=1000000000):zf Try.prog 100 [.sl dgE a] [] (.own 0) [(0,kO (zr (val a)))]:=by
 refine kJ tok mix Try.func100 rfl rfl rfl ?_;intro hl0;refine ⟨Nat,fun n=>⟨[(3,i64 n),(0,.sl dgE a)],[],0,34,0⟩,fun n=>n<=a.length/\∀i,n<=i->dig a i=0,fun n=>n,a.length,?_,?_,?_⟩
 ·exact ⟨Nat.le_refl _,fun i h=>uK h⟩
 ·exact zo []
 rintro n ⟨h1,h2⟩
 have post:∀(n:Nat),n<=a.length->(∀i,n<=i->dig a i=0)->(n=0∨dig a (n - 1)≠0)->zr (val a)=a.take n:=fun n h1 h2 h3=>(zd9 h3 h1 h2).symm
 refine Br.mk (fun h3=>?_) (fun h3=>?_)
 ·refine Ar.o ?_;refine Ob.o ?_;intro x hx;refine Br.mk (fun h4=>?_) (fun h4=>?_)
  ·refine Ar.o ?_;refine ⟨n - 1,⟨oM,fun i hi=>?_⟩,ki [] ⟨congrArg (fun n=>some (i64 n)) oM,rfl,trivial⟩ trivial,by dsimp only;omega⟩
   by_cases e:i=n - 1
   ·subst e;rw [show ((n:Int) - 1).toNat=n - 1 by omega] at hx;rw [kB hx];omega
   ·exact h2 i oM
  ·have h5:dig a (n - 1)≠0:=by
    rw [show ((n:Int) - 1).toNat=n - 1 by omega] at hx;rw [kB hx];omega
   rw [post n h1 h2 (.inr h5)];refine ⟨Dig,dgE,[],rfl,Ob.mk vF ?_⟩;refine ⟨Nat,fun i=>⟨[(5,i64 i),(3,i64 n),(4,.own 0),(0,.sl dgE a)],[(0,kO (a.take i))],1,34,0⟩,fun i=>i<=n,fun i=>n - i,0,?_,?_,?_⟩
   ·exact Nat.zero_le _
   ·exact zo [(0,some 0)]
   rintro i hi
   have hi:i<=n:=hi;refine Br.mk (fun k1=>?_) (fun k1=>?_)
   ·refine Ob.o ?_;intro y hy;refine ⟨Dig,dgE,[y],rfl,Ob.mk (vN y) ?_⟩;refine ⟨_,rfl,Ob.mk (zaP (by simp;omega)) ?_⟩;refine Ar.o ?_
    refine ⟨i+1,by show i+1<=n;omega,vm [(0,some 2)] rfl rfl rfl ⟨rfl,rfl,rfl,rfl,trivial⟩
     ⟨congrArg (fun l=>some (kO l)) (by rw [List.take_add_one,show a[i]? =some y from hy];rfl),trivial⟩,by dsimp only;omega⟩
   ·have hin:i=n:=by omega
    subst hin;exact ⟨some 0,.own _ rfl,rfl,fun _ _=>rfl⟩
 ·have h5:n=0:=by omega
  rw [post n h1 h2 (.inl h5)];refine ⟨Dig,dgE,[],rfl,Ob.mk vF ?_⟩;refine ⟨Nat,fun i=>⟨[(5,i64 i),(3,i64 n),(4,.own 0),(0,.sl dgE a)],[(0,kO (a.take i))],1,34,0⟩,fun i=>i<=n,fun i=>n - i,0,?_,?_,?_⟩
  ·exact Nat.zero_le _
  ·exact zo [(0,some 0)]
  rintro i hi
  have hi:i<=n:=hi;refine Br.mk (fun k1=>?_) (fun k1=>?_)
  ·refine Ob.o ?_;intro y hy;refine ⟨Dig,dgE,[y],rfl,Ob.mk (vN y) ?_⟩;refine ⟨_,rfl,Ob.mk (zaP (by simp;omega)) ?_⟩;refine Ar.o ?_
   refine ⟨i+1,by show i+1<=n;omega,vm [(0,some 2)] rfl rfl rfl ⟨rfl,rfl,rfl,rfl,trivial⟩
    ⟨congrArg (fun l=>some (kO l)) (by rw [List.take_add_one,show a[i]? =some y from hy];rfl),trivial⟩,by dsimp only;omega⟩
  ·have hin:i=n:=by omega
   subst hin;exact ⟨some 0,.own _ rfl,rfl,fun _ _=>rfl⟩
theorem kG(a:List Dig)(i:Int)(hi:0<=i):zf Try.prog 104 [.sl dgE a,i64 i] [] (u64 (dig a i.toNat)) []:=by
 refine zh tok mix Try.func104 rfl rfl rfl ?_;refine Br.mk (fun h=>?_) (fun h=>?_)
 ·omega
 intro hl;refine Br.mk (fun h2=>?_) (fun h2=>?_)
 ·exact zF (by rw [uK oM];rfl)
 ·refine Ob.o ?_;intro x hx;have:=x.isLt;refine Ar.o ?_;exact zF (by rw [kB hx])
theorem uO{n:Nat}{e:Int}(h:e=n):((dof n).val:Int)=IntKind.u32.wrap e:=by rw [zh6,kN,h];omega
theorem zdn{a b:List Dig}{j:Nat}(h:∀i,j+1<=i->dig a i=dig b i)(hl:dig a j < dig b j):val a < val b:=by
 have e1:=kK a j;have e2:=kK b j;have e3:=qk a j;have e4:=zB a j;have e5:=zB b j;have e6:=yG h;have:val (a.drop j)+1<=val (b.drop j):=oM;have:=Nat.mul_le_mul_left (4294967296 ^ j) this;rw [Nat.mul_add] at this;omega
theorem zgg(a b:List Dig)(ha:a.length<=1000000000)(hb:b.length<=1000000000):
  zf Try.prog 109 [.sl dgE a,.sl dgE b] [] (i64 (zdm (val a) (val b))) []:=by
 refine zh tok mix Try.func109 rfl rfl rfl ?_;intro hl1 hl2;refine Ar.fit (by simp only [zbZ];omega) ?_;refine ⟨Nat,fun j=>⟨[(5,i64 ((j:Int) - 1)),(0,.sl dgE a),(1,.sl dgE b)],[],0,30,0⟩,fun j=>j<=1000000000/\∀i,j<=i->dig a i=dig b i,fun j=>j,max a.length b.length,?_,?_,?_⟩
 ·exact ⟨oM,fun i hi=>by rw [uK oM,uK oM]⟩
 ·exact ki [] ⟨congrArg (fun n=>some (i64 n)) (by simp only [zbZ];omega),rfl,rfl,trivial⟩ trivial
 rintro j ⟨h1,h2⟩
 refine Br.mk (fun h3=>?_) (fun h3=>?_)
 ·have e:((j:Int) - 1).toNat=j - 1:=by omega
  have h2':∀i,j - 1+1<=i->dig a i=dig b i:=fun i hi=>h2 i oM
  refine ze.t (kG a _ oM) ?_;refine ze.t (kG b _ oM) ?_;refine Br.mk (fun h4=>?_) (fun h4=>?_)
  ·have:=zdn h2' (by rw [e] at h4;omega);exact zF (by rw [zdm,if_pos this])
  refine ze.t (kG a _ oM) ?_;refine ze.t (kG b _ oM) ?_;refine Br.mk (fun h5=>?_) (fun h5=>?_)
  ·have:=zdn (fun i hi=>(h2' i hi).symm) (by rw [e] at h5;omega);exact zF (by rw [zdm,if_neg oM,if_pos this])
  refine Ar.o ?_;refine ⟨j - 1,⟨oM,fun i hi=>?_⟩,ki [] ⟨congrArg (fun n=>some (i64 n)) oM,rfl,rfl,trivial⟩ trivial,by dsimp only;omega⟩
  by_cases hij:i=j - 1
  ·subst hij;rw [e] at h4 h5;omega
  ·exact h2 i oM
 ·have hj:j=0:=by omega
  subst hj;have:=zfu fun i=>h2 i (Nat.zero_le _)
  exact zF (by rw [zdm,if_neg oM,if_neg oM])
theorem zh7(a b:List Dig)(ha:a.length<=900000000)(hb:b.length<=900000000):
  zf Try.prog 95 [.sl dgE a,.sl dgE b] [] (.own 0) [(0,kO (zr (val a+val b)))]:=by
 refine kJ tok mix Try.func95 rfl rfl rfl ?_;refine ⟨Dig,dgE,[],rfl,Ob.mk vF ?_⟩
 refine ⟨Nat×List Dig×Nat,fun q=>⟨[(7,i64 q.1),(6,u64 q.2.2),(5,.own 0),(0,.sl dgE a),(1,.sl dgE b)],[(0,kO q.2.1)],1,42,0⟩,
  fun q=>q.1<=max a.length b.length/\q.2.1.length=q.1/\q.2.2<=1/\val q.2.1+4294967296 ^ q.1*q.2.2=val (a.take q.1)+val (b.take q.1),fun q=>max a.length b.length - q.1,(0,[],0),?_,?_,?_⟩
 ·exact ⟨Nat.zero_le _,rfl,Nat.zero_le _,rfl⟩
 ·exact zo [(0,some 0)]
 rintro ⟨i,out,c⟩ ⟨h1,h2,h3,h4⟩
 dsimp only at h1 h2 h3 h4;intro hl1 hl2;refine Br.mk (fun h5=>?_) (fun h5=>?_)
 ·simp only [zbZ] at h5;have d1:=j8 a i;have d2:=j8 b i;refine ze.t (kG a _ oM) ?_;refine ze.t (kG b _ oM) ?_;simp only [Int.toNat_natCast];(iterate 2 refine Ar.o ?_);refine Ar.wrap ?_;refine ⟨Dig,dgE,[dof (dig a i+dig b i+c)],congrArg (fun n=>[u32 n]) (uO oM),Ob.mk (vN _) ?_⟩;refine ⟨_,rfl,Ob.mk (zaP (by simp;omega)) ?_⟩;refine Ob.o0 ?_;refine Ar.o ?_
  refine ⟨(i+1,out++[dof (dig a i+dig b i+c)],(dig a i+dig b i+c) / 4294967296),⟨by dsimp only;omega,by simp [h2],by dsimp only;omega,?_⟩,
   ki [(0,some 2)] ⟨rfl,congrArg (fun n=>some (u64 n)) (by dsimp only;omega),rfl,rfl,rfl,trivial⟩ ⟨rfl,trivial⟩,by dsimp only;omega⟩
  dsimp only;rw [jb,h2,kN,zV,zV,Nat.pow_succ];have e:=Nat.div_add_mod (dig a i+dig b i+c) 4294967296;generalize (dig a i+dig b i+c) / 4294967296=x at*;generalize (dig a i+dig b i+c) % 4294967296=y at*;generalize 4294967296 ^ i=p at*
  grind
 ·simp only [zbZ] at h5;have hi:i=max a.length b.length:=oM;refine Ar.wrap ?_;refine ⟨Dig,dgE,[dof c],congrArg (fun n=>[u32 n]) (uO rfl),Ob.mk (vN _) ?_⟩;refine ⟨_,rfl,Ob.mk (zaP (by simp;omega)) ?_⟩;refine ze.fresh _ _ (z9 _ (by simp;omega)) rfl (ka _) (.inr (zT _)) ?_;refine ⟨some 3,.own _ rfl,?_,fun _ _=>rfl⟩
  have e:val (out++[dof c])=val a+val b:=by
   rw [jb,h2,kN,Nat.mod_eq_of_lt oM,h4,kq oM,kq oM]
  rw [← e];rfl
theorem jv(a:List Dig)(ha:a.length<=1000000000):zf Try.prog 100 [.sl dgE a] [] (.sl dgE (zr (val a))) []:=
 (z9 a ha).plain rfl
theorem zcq(a b:List Dig)(ha:a.length<=900000000)(hb:b.length<=900000000):
  zf Try.prog 95 [.sl dgE a,.sl dgE b] [] (.sl dgE (zr (val a+val b))) []:=(zh7 a b ha hb).plain rfl
theorem zgh(a b:List Dig)(ha:a.length<=900000000)(hb:b.length<=900000000):
  zf Try.prog 110 [.sl dgE a,.sl dgE b] [] (.tup [.own 0,pr (val b<=val a)]) [(0,kO (zr (val a - val b)))]:=by
 refine kJ tok mix Try.func110 rfl rfl rfl ?_;refine ze.t (zgg a b oM oM) ?_;refine Br.mk (fun h=>?_) (fun h=>?_)
 ·have hlt:val a < val b:=zeJ.1 h;refine ⟨none,zaN (.cons (.nil rfl) (.cons (.le _ _ (zD oM) rfl) .nil)),?_⟩;show zr (val a - val b)=[];rw [Nat.sub_eq_zero_of_le oM];exact ql
 have hle:val b<=val a:=Nat.le_of_not_lt fun h'=>h (zeJ.2 h')
 refine ⟨Dig,dgE,[],rfl,Ob.mk vF ?_⟩
 refine ⟨Nat×List Dig×Nat,fun ⟨i,out,c⟩=>⟨[(8,i64 i),(7,u64 c),(6,.own 0),(0,.sl dgE a),(1,.sl dgE b)],[(0,kO out)],1,41,0⟩,
  fun q=>q.1<=a.length/\q.2.1.length=q.1/\q.2.2<=1/\val q.2.1+val (b.take q.1)=val (a.take q.1)+4294967296 ^ q.1*q.2.2,fun q=>a.length - q.1,(0,[],0),?_,?_,?_⟩
 ·exact ⟨Nat.zero_le _,rfl,Nat.zero_le _,rfl⟩
 ·exact zo [(0,some 0)]
 rintro ⟨i,out,c⟩ ⟨h1,h2,h3,h4⟩
 dsimp only at h1 h2 h3 h4;intro hl1;refine Br.mk (fun h5=>?_) (fun h5=>?_)
 ·have d1:=j8 a i;have d2:=j8 b i;refine ze.t (kG a _ oM) ?_;simp only [Int.toNat_natCast];refine Ar.o ?_;refine ze.t (kG b _ oM) ?_;simp only [Int.toNat_natCast];(iterate 2 refine Ar.o ?_);refine Ar.wrap ?_;refine ⟨Dig,dgE,[dof (4294967296+dig a i - dig b i - c)],congrArg (fun n=>[u32 n]) (uO oM),Ob.mk (vN _) ?_⟩;refine ⟨_,rfl,Ob.mk (zaP (by simp;omega)) ?_⟩;refine Ob.o0 ?_;refine Ar.fit (by simp only [Int.reducePow];omega) ?_;refine Ar.o ?_
  refine ⟨(i+1,out++[dof (4294967296+dig a i - dig b i - c)],1 - (4294967296+dig a i - dig b i - c) / 4294967296),⟨by dsimp only;omega,by simp [h2],by dsimp only;omega,?_⟩,
   ki [(0,some 2)] ⟨rfl,congrArg (fun n=>some (u64 n)) (by dsimp only;omega),rfl,rfl,rfl,trivial⟩ ⟨rfl,trivial⟩,by dsimp only;omega⟩
  dsimp only;rw [jb,h2,kN,zV,zV,Nat.pow_succ];have e:(4294967296+dig a i - dig b i - c) % 4294967296+dig b i+c=dig a i+4294967296*(1 - (4294967296+dig a i - dig b i - c) / 4294967296):=oM;generalize 1 - (4294967296+dig a i - dig b i - c) / 4294967296=x at*;generalize (4294967296+dig a i - dig b i - c) % 4294967296=y at*;generalize 4294967296 ^ i=p at*
  have e2:p*y+p*dig b i+p*c=p*dig a i+p*4294967296*x:=by
   rw [← Nat.mul_add,← Nat.mul_add,e,Nat.mul_add,Nat.mul_assoc]
  omega
 ·have hi:i=a.length:=by omega
  refine ze.fresh _ _ (z9 _ oM) rfl (ka _) (.inr (zT _)) ?_;refine ⟨some 1,zaN (.cons (.own _ rfl) (.cons (.le _ _ (yU hle) rfl) .nil)),?_,fun _ _=>rfl⟩
  have e:val out=val a - val b:=by
   subst hi;have e0:val (a.take a.length)=val a:=kq (Nat.le_refl _);rw [e0] at h4;have e1:=kK b a.length;have e2:=kT a
   have e3:val (b.drop a.length)=0:=by
    rcases Nat.eq_zero_or_pos (val (b.drop a.length)) with h | h
    ·exact h
    ·have:=Nat.mul_le_mul_left (4294967296 ^ a.length) h;omega
   have e4:=kT out;rw [h2] at e4;rw [e3] at e1;have:c=0∨c=1:=oM
   rcases this with rfl | rfl <;> omega
  rw [← e];rfl
theorem zhi(a b:List Dig)(ha:a.length<=900000000)(hb:b.length<=900000000):
  zf Try.prog 110 [.sl dgE a,.sl dgE b] [] (.tup [.sl dgE (zr (val a - val b)),pr (val b<=val a)]) []:=(zgh a b ha hb).plain rfl
theorem zgi{x y c:Nat}(hx:x < 4294967296)(hy:y < 4294967296)(hc:c < 4294967296):x*y+c<=18446744069414584320:=by
 have:x*y<=4294967295*4294967295:=Nat.mul_le_mul oM oM;omega
theorem zbH{x y:Nat}(hx:x < 4294967296)(hy:y < 4294967296):x*y<=18446744065119617025:=by
 have:x*y<=4294967295*4294967295:=Nat.mul_le_mul oM oM;omega
theorem zgj{p q x y z c u v w o o0 r:Nat}(h4:o+p*q*c=o0+p*(x*w))(hs:r+p*q*z=o+p*q*v)(e:4294967296*u+v=x*y+z+c):
  r+p*q*4294967296*u=o0+p*(x*(w+q*y)):=by grind
theorem zgk(a:List Dig)(d:Nat)(ha:a.length<=900000000)(hd:d < 4294967296):
  zf Try.prog 108 [.sl dgE a,u64 d] [] (.own 0) [(0,kO (zr (val a*d)))]:=by
 refine kJ tok mix Try.func108 rfl rfl rfl ?_;refine ⟨Dig,dgE,[],rfl,Ob.mk vF ?_⟩
 refine ⟨Nat×List Dig×Nat,fun ⟨i,out,c⟩=>⟨[(7,i64 i),(6,u64 c),(5,.own 0),(0,.sl dgE a),(1,u64 d)],[(0,kO out)],1,39,0⟩,
  fun q=>q.1<=a.length/\q.2.1.length=q.1/\q.2.2 < 4294967296/\val q.2.1+4294967296 ^ q.1*q.2.2=val (a.take q.1)*d,fun q=>a.length - q.1,(0,[],0),?_,?_,?_⟩
 ·exact ⟨Nat.zero_le _,rfl,dC,by simp [val]⟩
 ·exact zo [(0,some 0)]
 rintro ⟨i,out,c⟩ ⟨h1,h2,h3,h4⟩
 dsimp only at h1 h2 h3 h4;intro hl1;refine Br.mk (fun h5=>?_) (fun h5=>?_)
 ·refine Ob.o ?_;intro x hx;have hx:a[i]? =some x:=hx;have dx:=kB hx;have hm:=zgi x.isLt hd h3;have hm0:=zbH x.isLt hd;have hxl:=x.isLt;(iterate 3 refine Ar.o ?_);refine Ar.wrap ?_;refine ⟨Dig,dgE,[dof (x.val*d+c)],congrArg (fun n=>[u32 n]) (uO oM),Ob.mk (vN _) ?_⟩;refine ⟨_,rfl,Ob.mk (zaP (by simp;omega)) ?_⟩;refine Ob.o0 ?_;refine Ar.o ?_
  refine ⟨(i+1,out++[dof (x.val*d+c)],(x.val*d+c) / 4294967296),⟨by dsimp only;omega,by simp [h2],by dsimp only;omega,?_⟩,
   ki [(0,some 2)] ⟨rfl,congrArg (fun n=>some (u64 n)) (by dsimp only;omega),rfl,rfl,rfl,trivial⟩ ⟨rfl,trivial⟩,by dsimp only;omega⟩
  dsimp only;rw [jb,h2,kN,zV,Nat.pow_succ,dx];have e:=Nat.div_add_mod (x.val*d+c) 4294967296;generalize (x.val*d+c) / 4294967296=u at*;generalize (x.val*d+c) % 4294967296=v at*;generalize 4294967296 ^ i=p at*;generalize x.val=x at*;generalize val (a.take i)=w at*;clear hm hm0
  grind
 ·have hi:i=a.length:=by omega
  refine Ar.wrap ?_;refine ⟨Dig,dgE,[dof c],congrArg (fun n=>[u32 n]) (uO rfl),Ob.mk (vN _) ?_⟩;refine ⟨_,rfl,Ob.mk (zaP (by simp;omega)) ?_⟩;refine ze.fresh _ _ (z9 _ (by simp;omega)) rfl (ka _) (.inr (zT _)) ?_;refine ⟨some 3,.own _ rfl,?_,fun _ _=>rfl⟩
  have e:val (out++[dof c])=val a*d:=by
   rw [jb,h2,kN,Nat.mod_eq_of_lt oM,h4,kq oM]
  rw [← e];rfl
theorem zfw(a:List Dig)(d:Nat)(ha:a.length<=900000000)(hd:d < 4294967296):
  zf Try.prog 108 [.sl dgE a,u64 d] [] (.sl dgE (zr (val a*d))) []:=(zgk a d ha hd).plain rfl
theorem zh8(a b:List Dig)(ha:a.length<=400000000)(hb:b.length<=400000000):
  zf Try.prog 97 [.sl dgE a,.sl dgE b] [] (.own 0) [(0,kO (zr (val a*val b)))]:=by
 refine kJ tok mix Try.func97 rfl rfl rfl ?_;intro hl1 hl2;(iterate 2 refine Ar.o ?_);refine ⟨Dig,dgE,0,rfl,Ob.o1 ?_⟩
 refine ⟨Nat×List Dig,fun ⟨i,out⟩=>⟨[(6,i64 i),(5,.own 0),(0,.sl dgE a),(1,.sl dgE b)],[(0,kO out)],1,69,0⟩,
  fun q=>q.1<=a.length/\q.2.length=a.length+b.length+1/\val q.2=val (a.take q.1)*val b/\∀j,q.1+b.length<=j->dig q.2 j=0,fun q=>a.length - q.1,(0,List.replicate (a.length+b.length+1) 0),?_,?_,?_⟩
 ·exact ⟨Nat.zero_le _,by simp,by simp [zbE,val],fun j _=>zbc _ _⟩
 ·exact kD [(0,some 0)] ⟨congrArg (fun n=>some (kO (List.replicate n 0))) oM,trivial⟩
 rintro ⟨i,out0⟩ ⟨h1,h2,h3,h4⟩
 dsimp only at h1 h2 h3 h4;intro hl3;refine Br.mk (fun h5=>?_) (fun h5=>?_)
 ·refine ⟨Nat×List Dig×Nat,fun ⟨k,out,c⟩=>⟨[(8,i64 k),(7,u64 c),(6,i64 i),(5,.own 0),(0,.sl dgE a),(1,.sl dgE b)],[(0,kO out)],1,69,0⟩,
   fun q=>q.1<=b.length/\q.2.1.length=a.length+b.length+1/\q.2.2 < 4294967296/\val q.2.1+4294967296 ^ (i+q.1)*q.2.2=val out0+4294967296 ^ i*(dig a i*val (b.take q.1))/\∀j,i+b.length<=j->dig q.2.1 j=0,fun q=>b.length - q.1,(0,out0,0),?_,?_,?_⟩
  ·exact ⟨Nat.zero_le _,h2,by dsimp only;omega,by simp [val],h4⟩
  ·exact zo [(0,some 0)]
  rintro ⟨k,out,c⟩ ⟨g1,g2,g3,g4,g5⟩
  dsimp only at g1 g2 g3 g4 g5;intro hl4;refine Br.mk (fun g6=>?_) (fun g6=>?_)
  ·refine Dr.k ?_;refine Ob.o ?_;intro x hx;have hx:a[i]? =some x:=hx;have dx:=kB hx;have hxl:=x.isLt;refine Ar.o ?_;refine Ob.o ?_;intro y hy;have hy:b[k]? =some y:=hy;have dy:=kB hy;have hyl:=y.isLt;refine Ar.o ?_;have hm0:=zbH hxl hyl;(iterate 2 refine Ar.o ?_);refine Ob.o ?_;refine Ob.o ?_;intro z hz;rw [show ((i:Int)+k).toNat=i+k by omega] at hz;have dz:=kB hz;have hzl:=z.isLt;(iterate 4 refine Ar.o ?_);refine Ar.wrap ?_;refine Ob.o ?_;refine Ob.o ?_;intro z' hz'
   refine ⟨dof (x.val*y.val+z.val+c),congrArg (fun n=>[u32 n]) (uO oM),?_⟩;refine Ob.o0 ?_;refine Ar.o ?_
   refine ⟨(k+1,out.set (i+k) (dof (x.val*y.val+z.val+c)),(x.val*y.val+z.val+c) / 4294967296),⟨by dsimp only;omega,by simp [g2],by dsimp only;omega,?_,?_⟩,
    ki [(0,some 0)] ⟨rfl,congrArg (fun n=>some (u64 n)) (by dsimp only;omega),rfl,rfl,rfl,rfl,trivial⟩ ⟨congrArg (fun n=>some (kO (out.set n _))) oM,trivial⟩,by dsimp only;omega⟩
   ·dsimp only;have hs:=zco out (i+k) (dof (x.val*y.val+z.val+c)) oM;rw [kN,dz] at hs;rw [zV,dy,← Nat.add_assoc i k 1,Nat.pow_succ];rw [dx] at g4 ⊢;have e:=Nat.div_add_mod (x.val*y.val+z.val+c) 4294967296;rw [Nat.pow_add] at g4 hs ⊢;exact zgj g4 hs e
   ·intro j hj;dsimp only;rw [zcn,if_neg oM];exact g5 j hj
  ·have hk:k=b.length:=by omega
   intro hl5;refine Ar.o ?_;refine Ar.wrap ?_;refine Ob.o ?_;refine Ob.o ?_;intro z' hz';refine ⟨dof c,congrArg (fun n=>[u32 n]) (uO rfl),?_⟩;refine Ar.o ?_
   refine ⟨(i+1,out.set (i+b.length) (dof c)),⟨by dsimp only;omega,by simp [g2],?_,?_⟩,
    kD [(0,some 0)] ⟨congrArg (fun n=>some (kO (out.set n _))) oM,trivial⟩,by dsimp only;omega⟩
   ·dsimp only;have hs:=zco out (i+b.length) (dof c) oM;rw [kN,g5 _ (Nat.le_refl _),Nat.mod_eq_of_lt g3] at hs;rw [hk,kq (Nat.le_refl _),h3] at g4;rw [zV];generalize val (out.set (i+b.length) _)=r at*;generalize 4294967296 ^ i=p at*;generalize 4294967296 ^ (i+b.length)=q at*;generalize val (a.take i)=w at*;generalize dig a i=x at*;generalize val out=o at*;clear h4 g5
    grind
   ·intro j hj;dsimp only;rw [zcn,if_neg oM];exact g5 j oM
 ·have hi:i=a.length:=by omega
  refine ze.fresh _ _ (z9 _ oM) rfl (ka _) (.inr (zT _)) ?_;refine ⟨some 1,.own _ rfl,?_,fun _ _=>rfl⟩;rw [hi,kq (Nat.le_refl _)] at h3;rw [← h3];rfl
theorem zhj(a b:List Dig)(ha:a.length<=400000000)(hb:b.length<=400000000):
  zf Try.prog 97 [.sl dgE a,.sl dgE b] [] (.sl dgE (zr (val a*val b))) []:=(zh8 a b ha hb).plain rfl
end Go.Gs
