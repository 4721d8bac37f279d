/- Numbers held in a range. -/
import Derived.Test.YtbgnkgoiocjbnaaGreatMA
import Derived.Test.YtbgnkgoiocjbnaaGreatMAP
set_option maxRecDepth 100000
set_option maxHeartbeats 8000000
set_option linter.all false
namespace Go.Gs
open Go.Proofs
def qM(n lo hi:Int):Int:=if n < lo then lo else if hi < n then hi else n
theorem znV(n lo hi:Int):zd Tryz.prog 261 [i64 n,i64 lo,i64 hi] [] (i64 (qM n lo hi)) []:=by
 refine zc tok mix Tryz.func261 rfl rfl rfl ?_;refine Br.mk (fun h=>?_) (fun h=>?_)
 ·exact zu (by simp [qM,h])
 refine Br.mk (fun h2=>?_) (fun h2=>?_)
 ·exact zu (by simp [qM,h,h2])
 ·exact zu (by simp [qM,h,h2])
theorem zgo{n lo hi:Int}(_:lo<=hi):qM n lo hi=n↔lo<=n/\n<=hi:=by
 unfold qM;split <;> (try split) <;> omega
structure Pt where
 x:Int
 y:Int
 deriving DecidableEq
def ptE(p:Pt):List SV:=[i64 p.x,i64 p.y]
def zp:Pt:=⟨0,0⟩
def zo(p:Pt):Prop:=(-1048576<=p.x/\p.x<=1048576)/\(-1048576<=p.y/\p.y<=1048576)
instance (p:Pt):Decidable (zo p):=inferInstanceAs (Decidable (_/\_))
theorem qx{p q:Pt}:(p.x=q.x/\p.y=q.y/\True)↔p=q:=by
 cases p;cases q;simp
theorem zqI(n:Int):zd Tryz.prog 209 [i64 n] [] (i64 (qM n (-1048576) 1048576)) []:=by
 refine zc tok mix Tryz.func209 rfl rfl rfl ?_;refine zb.t (znV n _ _) ?_;exact .refl
theorem zqJ(p:Pt):zd Tryz.prog 151 [.agg (ptE p)] [] (.agg [i64 (qM p.x (-1048576) 1048576),i64 (qM p.y (-1048576) 1048576)]) []:=by
 refine zc tok mix Tryz.func151 rfl rfl rfl ?_;refine Dr.k ?_;refine zb.t (zqI p.x) ?_;refine zb.t (zqI p.y) ?_;exact .refl
theorem qc(p:Pt):zd Tryz.prog 99 [.agg (ptE p)] [] (pr (zo p)) []:=by
 refine zc tok mix Tryz.func99 rfl rfl rfl ?_;refine Dr.k ?_;refine zb.t (zqJ p) ?_;refine kZ (p:=qM p.x (-1048576) 1048576=p.x/\qM p.y (-1048576) 1048576=p.y/\True) ?_;rw [zgo dC,zgo dC];exact ⟨fun h=>⟨h.1,h.2.1⟩,fun h=>⟨h.1,h.2,trivial⟩⟩
theorem yG(p:Pt):zd Tryz.prog 49 [.agg (ptE p)] [] (pr (zo p)) []:=by
 refine zc tok mix Tryz.func49 rfl rfl rfl ?_;refine Br.mk (fun h1=>?_) (fun h1=>ze (fun h=>h1 h.1.1));refine Br.mk (fun h2=>?_) (fun h2=>ze (fun h=>h2 h.1.2));refine Br.mk (fun h3=>?_) (fun h3=>ze (fun h=>h3 h.2.1));exact kZ ⟨fun h4=>⟨⟨h1,h2⟩,⟨h3,h4⟩⟩,fun h=>h.2.2⟩
abbrev Dig:=Fin 4294967296
def val:List Dig->Nat
 | []=>0
 | d::r=>d.val+4294967296*val r
def zm(n:Nat):List Dig:=
 if h:n=0 then [] else ⟨n % 4294967296,Nat.mod_lt _ dC⟩::zm (n / 4294967296)
termination_by n
decreasing_by exact Nat.div_lt_self (Nat.pos_of_ne_zero h) dC
def dig(xs:List Dig)(i:Nat):Nat:=match xs[i]? with
 | some d=>d.val
 | none=>0
theorem zbK(i:Nat):0 < 4294967296 ^ i:=Nat.pow_pos dC
theorem jU(xs:List Dig)(i:Nat):dig xs i < 4294967296:=by
 unfold dig;split
 ·exact Fin.isLt _
 ·decide
theorem zK{xs:List Dig}{i:Nat}{d:Dig}(h:xs[i]? =some d):dig xs i=d.val:=by simp [dig,h]
theorem u3{xs:List Dig}{i:Nat}(h:xs.length<=i):dig xs i=0:=by simp [dig,h]
theorem zcN(d:Dig)(r:List Dig):dig (d::r) 0=d.val:=rfl
theorem uu(d:Dig)(r:List Dig)(i:Nat):dig (d::r) (i+1)=dig r i:=by simp [dig]
theorem zqK(xs:List Dig)(k i:Nat):dig (xs.take k) i=if i < k then dig xs i else 0:=by
 by_cases h:i < k <;> simp [dig,List.getElem?_take,h]
theorem jd(xs:List Dig)(i j:Nat)(d:Dig):dig (xs.set i d) j=if i=j/\i < xs.length then d.val else dig xs j:=by
 simp only [dig,List.getElem?_set]
 by_cases h:i=j
 ·subst h
  by_cases h2:i < xs.length
  ·simp [h2]
  ·simp [h2];
 ·simp [h]
theorem zmL(xs ys:List Dig)(i:Nat):dig (xs++ys) i=if i < xs.length then dig xs i else dig ys (i - xs.length):=by
 by_cases h:i < xs.length <;> simp [dig,List.getElem?_append,h]
theorem jS(n i:Nat):dig (List.replicate n (0:Dig)) i=0:=by
 simp only [dig,List.getElem?_replicate];by_cases h:i < n <;> simp [h]
theorem zjq:val []=0:=rfl
theorem yY(d:Dig)(r:List Dig):val (d::r)=d.val+4294967296*val r:=rfl
theorem uf:∀xs ys:List Dig,val (xs++ys)=val xs+4294967296 ^ xs.length*val ys
 | [],ys=>by simp [val]
 | x::xs,ys=>by
  simp only [List.cons_append,val,uf xs ys,List.length_cons,Nat.pow_succ]
  grind
theorem qD:∀xs:List Dig,val xs < 4294967296 ^ xs.length
 | []=>by simp [val]
 | x::xs=>by
  have h:=qD xs;have:=x.isLt;simp only [val,List.length_cons,Nat.pow_succ];omega
theorem ky(xs:List Dig)(i:Nat):val xs=val (xs.take i)+4294967296 ^ i*val (xs.drop i):=by
 by_cases h:i<=xs.length
 ·have:=uf (xs.take i) (xs.drop i);rw [List.take_append_drop,List.length_take,Nat.min_eq_left h] at this;exact this
 ·rw [List.take_of_length_le oM,List.drop_eq_nil_of_le oM];simp [val]
theorem qq(xs:List Dig)(i:Nat):val (xs.take i) < 4294967296 ^ i:=by
 have h:=qD (xs.take i);have:(xs.take i).length<=i:=by simp;omega
 exact Nat.lt_of_lt_of_le h (Nat.pow_le_pow_right dC this)
theorem zz(xs:List Dig)(i:Nat):val (xs.drop i)=dig xs i+4294967296*val (xs.drop (i+1)):=by
 by_cases h:i < xs.length
 ·rw [List.drop_eq_getElem_cons h,yY,zK (List.getElem?_eq_getElem h)]
 ·rw [List.drop_eq_nil_of_le oM,List.drop_eq_nil_of_le oM,u3 oM];rfl
theorem zG(xs:List Dig)(i:Nat):val (xs.take (i+1))=val (xs.take i)+4294967296 ^ i*dig xs i:=by
 have h1:=ky xs i;have h2:=ky xs (i+1);have h3:=zz xs i;rw [Nat.pow_succ] at h2;rw [h3] at h1;generalize 4294967296 ^ i=q at*;generalize val (xs.take (i+1))=a at*;generalize val (xs.take i)=b at*;generalize val (xs.drop (i+1))=c at*;have:q*(dig xs i+4294967296*c)=q*dig xs i+q*4294967296*c:=by rw [Nat.mul_add,Nat.mul_assoc]
 omega
theorem kz{xs:List Dig}{i:Nat}(h:xs.length<=i):val (xs.take i)=val xs:=by rw [List.take_of_length_le h]
theorem zhG(xs:List Dig):val (xs.take 0)=0:=rfl
theorem zU{xs:List Dig}{i:Nat}(h:xs.length<=i):val (xs.drop i)=0:=by rw [List.drop_eq_nil_of_le h];rfl
theorem uv:∀(xs:List Dig) (i:Nat) (d:Dig),i < xs.length->val (xs.set i d)+4294967296 ^ i*dig xs i=val xs+4294967296 ^ i*d.val
 | [],i,d,h=>by simp at h
 | x::xs,0,d,_=>by simp only [List.set_cons_zero,val,zcN];omega
 | x::xs,i+1,d,h=>by
  have ih:=uv xs i d (by simpa using h);simp only [List.set_cons_succ,val,uu,Nat.pow_succ]
  grind
theorem yZ(xs:List Dig)(d:Dig):val (xs++[d])=val xs+4294967296 ^ xs.length*d.val:=by
 rw [uf];simp [val]
theorem ve(n:Nat):val (List.replicate n (0:Dig))=0:=by
 induction n with
 | zero=>rfl
 | succ n ih=>rw [List.replicate_succ,yY,ih];rfl
theorem qV:zm 0=[]:=by unfold zm;rfl
theorem zdJ{n:Nat}(h:n≠0):zm n=⟨n % 4294967296,Nat.mod_lt _ dC⟩::zm (n / 4294967296):=by
 rw [zm];simp [h]
theorem zn(n:Nat):val (zm n)=n:=by
 induction n using Nat.strongRecOn with
 | _ n ih=>
  by_cases h:n=0
  ·subst h;rw [qV];rfl
  ·rw [zdJ h,yY,ih _ (Nat.div_lt_self (Nat.pos_of_ne_zero h) dC)];show n % 4294967296+_=n;omega
def zkW(xs:List Dig):Prop:=xs=[]∨dig xs (xs.length - 1)≠0
theorem zcO:∀{xs:List Dig},zkW xs->xs≠[]->val xs≠0
 | [],_,h=>absurd rfl h
 | [x],h,_=>by
  rcases h with h | h
  ·cases h
  ·have:dig [x] ([x].length - 1)=x.val:=rfl;simp only [val];omega
 | x::y::r,h,_=>by
  have h':zkW (y::r):=by
   rcases h with h | h
   ·cases h
   ·right
    simp only [List.length_cons,Nat.add_sub_cancel] at h ⊢;rw [uu] at h;exact h
  have:=zcO h' (by simp);rw [yY];omega
theorem zkX:∀{xs:List Dig},zkW xs->zm (val xs)=xs
 | [],_=>qV
 | x::r,h=>by
  have hp:=zcO h (by simp)
  have h':zkW r:=by
   rcases h with h | h
   ·cases h
   ·cases r with
    | nil=>exact .inl rfl
    | cons y r=>
     right
     simp only [List.length_cons,Nat.add_sub_cancel] at h ⊢;rw [uu] at h;exact h
  have hx:=x.isLt;rw [zdJ hp];have e1:val (x::r) % 4294967296=x.val:=by rw [yY];omega
  have e2:val (x::r) / 4294967296=val r:=by rw [yY];omega
  rw [e2,zkX h'];congr 1;exact Fin.ext e1
theorem ug(n:Nat):zkW (zm n):=by
 induction n using Nat.strongRecOn with
 | _ n ih=>
  by_cases h:n=0
  ·subst h;rw [qV];exact .inl rfl
  ·have ih:=ih _ (Nat.div_lt_self (Nat.pos_of_ne_zero h) (show 1 < 4294967296 by decide))
   right
   rw [zdJ h]
   rcases ih with ih | ih
   ·have e:=zn (n / 4294967296);rw [ih] at e ⊢;simp only [val] at e;show n % 4294967296≠0;omega
   ·by_cases he:zm (n / 4294967296)=[]
    ·rw [he] at ih;exact absurd (by rfl) ih
    ·obtain ⟨y,r,he⟩:=List.exists_cons_of_ne_nil he;rw [he] at ih ⊢;simp only [List.length_cons,Nat.add_sub_cancel] at ih ⊢;rw [uu];exact ih
theorem zgp{xs:List Dig}{n:Nat}(h:n=0∨dig xs (n - 1)≠0)(hn:n<=xs.length)(hz:∀i,n<=i->dig xs i=0):xs.take n=zm (val xs):=by
 have e:val xs=val (xs.take n):=by
  rw [ky xs n]
  have:val (xs.drop n)=0:=by
   have key:∀k,val (xs.drop (n+k))=0∨k<=xs.length:=fun k=>by
    by_cases hk:k<=xs.length
    ·exact .inr hk
    ·exact .inl (zU oM)
   have down:∀j,val (xs.drop (n+(xs.length - j)))=0:=by
    intro j
    induction j with
    | zero=>exact zU oM
    | succ j ih=>
     by_cases hj:j < xs.length
     ·rw [zz,hz _ oM,show n+(xs.length - (j+1))+1=n+(xs.length - j) by omega,ih]
     ·rw [show n+(xs.length - (j+1))=n+(xs.length - j) by omega];exact ih
   have:=down xs.length
   simpa using this
  rw [this];simp
 rw [e,zkX]
 by_cases hn0:n=0
 ·subst hn0;exact .inl rfl
 ·right
  rw [List.length_take,Nat.min_eq_left hn,zqK,if_pos oM];exact h.resolve_left hn0
theorem jp{n k:Nat}(h:n < 4294967296 ^ k):(zm n).length<=k:=by
 induction k generalizing n with
 | zero=>
   have:n=0:=by simpa using h
   subst this;rw [qV];simp
 | succ k ih=>
  by_cases h0:n=0
  ·subst h0;rw [qV];simp
  ·rw [zdJ h0,List.length_cons]
   have:n / 4294967296 < 4294967296 ^ k:=by
    rw [Nat.div_lt_iff_lt_mul dC];rwa [Nat.pow_succ] at h
   have:=ih this;omega
theorem za1{n k:Nat}(h:(zm n).length<=k):n < 4294967296 ^ k:=by
 have:=qD (zm n);rw [zn] at this;exact Nat.lt_of_lt_of_le this (Nat.pow_le_pow_right dC h)
theorem zB(xs:List Dig):(zm (val xs)).length<=xs.length:=jp (qD xs)
theorem jO{n:Nat}:zm n=[]↔n=0:=by
 constructor
 ·intro h;have:=zn n;rw [h] at this;exact this.symm
 ·rintro rfl;exact qV
theorem qN{n:Nat}:0 < (zm n).length↔n≠0:=by
 rw [List.length_pos_iff,Ne,jO]
theorem zjr{n:Nat}(h:n≠0):4294967296 ^ ((zm n).length - 1)<=n:=by
 rcases Nat.lt_or_ge n (4294967296 ^ ((zm n).length - 1)) with h1 | h1
 ·have:=jp h1;have:=qN.2 h;omega
 ·exact h1
theorem kW{m n:Nat}(h:m<=n):(zm m).length<=(zm n).length:=jp (Nat.lt_of_le_of_lt h (za1 (Nat.le_refl _)))
theorem zbL{xs ys:List Dig}{k:Nat}(h:∀i,k<=i->dig xs i=dig ys i):val (xs.drop k)=val (ys.drop k):=by
 have down:∀j,∀k',k<=k'->max xs.length ys.length<=k'+j->val (xs.drop k')=val (ys.drop k'):=by
  intro j
  induction j with
  | zero=>intro k' _ hk;rw [zU oM,zU oM]
  | succ j ih=>
   intro k' hk hj;rw [zz,zz ys,h k' hk,ih (k'+1) oM oM]
 exact down (max xs.length ys.length) k (Nat.le_refl _) oM
theorem zh4{xs ys:List Dig}(h:∀i,dig xs i=dig ys i):val xs=val ys:=by
 have:=zbL (k:=0) (xs:=xs) (ys:=ys) (fun i _=>h i)
 simpa using this
theorem zs1(xs:List Dig)(i:Nat):dig xs i=val xs / 4294967296 ^ i % 4294967296:=by
 have h1:=ky xs i;have h2:=qq xs i;have h3:=zz xs i;have h4:=jU xs i
 have e:val xs / 4294967296 ^ i=val (xs.drop i):=by
  rw [h1,Nat.add_comm,Nat.mul_add_div (zbK i),Nat.div_eq_of_lt h2,Nat.add_zero]
 rw [e,h3];omega
theorem zgq(xs:List Dig)(i:Nat):val (xs.drop i)=val xs / 4294967296 ^ i:=by
 have h1:=ky xs i;have h2:=qq xs i;rw [h1,Nat.add_comm,Nat.mul_add_div (zbK i),Nat.div_eq_of_lt h2,Nat.add_zero]
theorem zkY(xs:List Dig)(i:Nat):val (xs.take i)=val xs % 4294967296 ^ i:=by
 have h1:=ky xs i;have h2:=qq xs i;rw [h1,Nat.add_mul_mod_self_left,Nat.mod_eq_of_lt h2]
def dof(n:Nat):Dig:=⟨n % 4294967296,Nat.mod_lt _ dC⟩
theorem zvV(n:Nat):(dof n).val=n % 4294967296:=rfl
def z7(n:Nat):Nat:=if n=0 then 0 else n.log2+1
theorem zbM(n:Nat):n < 2 ^ z7 n:=by
 unfold z7;split
 ·subst_vars;decide
 ·exact Nat.lt_log2_self
theorem vv{n:Nat}(h:n≠0):2 ^ (z7 n - 1)<=n:=by
 unfold z7;rw [if_neg h];exact Nat.log2_self_le h
theorem zdK{n k:Nat}(h1:n < 2 ^ k)(h2:n≠0)(h3:2 ^ (k - 1)<=n):z7 n=k:=by
 have a:=zbM n;have b:=vv h2;have c:2 ^ (z7 n - 1) < 2 ^ k:=Nat.lt_of_le_of_lt b h1;have d:2 ^ (k - 1) < 2 ^ z7 n:=Nat.lt_of_le_of_lt h3 a;have c:=(Nat.pow_lt_pow_iff_right (by decide:1 < 2)).1 c;have d:=(Nat.pow_lt_pow_iff_right (by decide:1 < 2)).1 d;have:0 < z7 n:=by unfold z7;rw [if_neg h2];omega
 have:k≠0:=by rintro rfl;simp at h1;exact h2 h1
 omega
theorem zmM:z7 0=0:=rfl
theorem zaq{n:Nat}:0 < z7 n↔n≠0:=by
 unfold z7;split <;> omega
theorem vw(k:Nat):4294967296 ^ k=2 ^ (32*k):=by rw [show 4294967296=2 ^ 32 by decide,← Nat.pow_mul]
theorem zpc{n:Nat}(h:2<=n):n.log2=(n / 2).log2+1:=by rw [Nat.log2_def,if_pos h]
theorem zmN{n:Nat}(h:n≠0):z7 n=z7 (n / 2)+1:=by
 unfold z7;rw [if_neg h]
 by_cases h1:n / 2=0
 ·rw [if_pos h1];have:n=1:=oM;subst this;rfl
 ·rw [if_neg h1,zpc oM]
theorem zar{xs:List Dig}(hn:dig xs (xs.length - 1)≠0):z7 (val xs)=32*(xs.length - 1)+z7 (dig xs (xs.length - 1)):=by
 have hl:0 < xs.length:=by
  rcases Nat.eq_zero_or_pos xs.length with h | h
  ·rw [List.length_eq_zero_iff.1 h] at hn;exact absurd rfl hn
  ·exact h
 have e1:=ky xs (xs.length - 1);have e2:=qq xs (xs.length - 1);have e3:=zz xs (xs.length - 1);rw [show xs.length - 1+1=xs.length by omega,zU (Nat.le_refl _),Nat.mul_zero,Nat.add_zero] at e3;rw [e3] at e1;generalize dig xs (xs.length - 1)=t at*;have p1:=zbM t;have p2:=vv hn;rw [vw] at e1 e2;have p0:0 < 2 ^ (32*(xs.length - 1)):=Nat.pow_pos dC;have np:0 < z7 t:=zaq.2 hn;refine zdK ?_ ?_ ?_
 ·rw [Nat.pow_add];have:2 ^ (32*(xs.length - 1))*(t+1)<=2 ^ (32*(xs.length - 1))*2 ^ z7 t:=Nat.mul_le_mul_left _ p1;rw [Nat.mul_add,Nat.mul_one] at this;omega
 ·have:2 ^ (32*(xs.length - 1))*1<=2 ^ (32*(xs.length - 1))*t:=Nat.mul_le_mul_left _ oM;omega
 ·rw [show 32*(xs.length - 1)+z7 t - 1=32*(xs.length - 1)+(z7 t - 1) by omega,Nat.pow_add];have:2 ^ (32*(xs.length - 1))*2 ^ (z7 t - 1)<=2 ^ (32*(xs.length - 1))*t:=Nat.mul_le_mul_left _ p2;omega
theorem zbN{xs:List Dig}{N:Nat}(h:∀j,j < xs.length->dig xs j=N / 4294967296 ^ j % 4294967296):val xs=N % 4294967296 ^ xs.length:=by
 have key:∀i,i<=xs.length->val (xs.take i)=N % 4294967296 ^ i:=by
  intro i
  induction i with
  | zero=>intro _;rw [Nat.pow_zero,Nat.mod_one];rfl
  | succ i ih=>
   intro hi;rw [zG,ih oM,h i oM,Nat.pow_succ,Nat.mod_mul]
 have:=key xs.length (Nat.le_refl _)
 rwa [List.take_length] at this
theorem znW(xs:List Dig)(w s j:Nat)(hs:s < 32):val xs / 2 ^ (32*w+s) / 4294967296 ^ j % 4294967296=(dig xs (w+j+1)*4294967296+dig xs (w+j)) / 2 ^ s % 4294967296:=by
 have e:val xs / 2 ^ (32*w+s) / 4294967296 ^ j=val (xs.drop (w+j)) / 2 ^ s:=by
  rw [zgq,Nat.div_div_eq_div_mul,Nat.div_div_eq_div_mul];congr 1;rw [vw,vw,← Nat.pow_add,← Nat.pow_add];congr 1;omega
 rw [e,zz,zz];generalize val (xs.drop (w+j+1+1))=R;generalize dig xs (w+j+1)=x;generalize dig xs (w+j)=y;have hp:2 ^ s*2 ^ (32 - s)=4294967296:=by rw [← Nat.pow_add,show s+(32 - s)=32 by omega]
 have:y+4294967296*(x+4294967296*R)=(x*4294967296+y)+2 ^ s*(2 ^ (32 - s)*4294967296*R):=by
  rw [show 2 ^ s*(2 ^ (32 - s)*4294967296*R)=(2 ^ s*2 ^ (32 - s))*4294967296*R by simp only [Nat.mul_assoc],hp];omega
 rw [this,Nat.add_mul_div_left _ _ (Nat.pow_pos dC)];rw [show 2 ^ (32 - s)*4294967296*R=4294967296*(2 ^ (32 - s)*R) by rw [Nat.mul_comm (2 ^ (32 - s)),Nat.mul_assoc],Nat.add_mul_mod_self_left]
def dgE(d:Dig):List SV:=[.val (.int .u32 (d.val:Int))]
abbrev u32(n:Int):SV:=.val (.int .u32 n)
abbrev u64(n:Int):SV:=.val (.int .u64 n)
abbrev kU(xs:List Dig):Mem:=.arr 149 dgE 1 xs
theorem qn(xs:List Dig):zfJ (kU xs):=fun _ _=>rfl
theorem qe(xs:List Dig):zfn (kU xs):=fun _ _=>rfl
theorem zgr(e:Int):IntKind.u32.wrap e=e % 4294967296:=rfl
theorem jE(e:Int):IntKind.u64.wrap e=e % 18446744073709551616:=rfl
theorem zer(d:Dig):[d].length=1/\1<=281474976710656/\1*1<=16777216/\0 < 1/\∀x∈[d],(dgE x).length=1/\jj (dgE x)=true/\j5.flats (dgE x)=true:=
 ⟨rfl,dC,dC,dC,fun _ _=>⟨rfl,rfl,rfl⟩⟩
theorem zcP:([]:List Dig).length=0/\0<=281474976710656/\0*1<=16777216/\0 < 1/\∀x∈([]:List Dig),(dgE x).length=1/\jj (dgE x)=true/\j5.flats (dgE x)=true:=
 ⟨rfl,dC,dC,dC,fun _ _=>⟨rfl,rfl,rfl⟩⟩
theorem zes{xs ys:List Dig}(h:xs.length+ys.length<=2000000000):((xs.length+ys.length:Int)*(4:Nat)<=140737488355328/\xs.length+ys.length<=281474976710656/\0 < 1/\∀x∈ys,(dgE x).length=1):=
 ⟨oM,oM,dC,fun _ _=>rfl⟩
def zdL(a b:Nat):Int:=if a < b then -1 else if b < a then 1 else 0
theorem zcl{a b:Nat}:zdL a b < 0↔a < b:=by
 unfold zdL;split
 ·simp_all
 ·split <;> simp_all
theorem znX{a b:Nat}:0 < zdL a b↔b < a:=by
 unfold zdL;split
 ·simp;omega
 ·split <;> simp_all
theorem qO(a:List Dig)(ha:a.length<=1000000000):zd Tryz.prog 170 [.sl dgE a] [] (.own 0) [(0,kU (zm (val a)))]:=by
 refine jD tok mix Tryz.func170 rfl rfl rfl ?_;intro hl0;refine ⟨Nat,fun n=>⟨[(3,i64 n),(0,.sl dgE a)],[],0,34,0⟩,fun n=>n<=a.length/\∀i,n<=i->dig a i=0,fun n=>n,a.length,?_,?_,?_⟩
 ·exact ⟨Nat.le_refl _,fun i h=>u3 h⟩
 ·exact zh []
 rintro n ⟨h1,h2⟩
 have post:∀(n:Nat),n<=a.length->(∀i,n<=i->dig a i=0)->(n=0∨dig a (n - 1)≠0)->zm (val a)=a.take n:=fun n h1 h2 h3=>(zgp h3 h1 h2).symm
 refine Br.mk (fun h3=>?_) (fun h3=>?_)
 ·refine Ar.o ?_;refine Ob.o ?_;intro x hx;refine Br.mk (fun h4=>?_) (fun h4=>?_)
  ·refine Ar.o ?_;refine ⟨n - 1,⟨oM,fun i hi=>?_⟩,z0 [] ⟨congrArg (fun n=>some (i64 n)) oM,rfl,trivial⟩ trivial,by dsimp only;omega⟩
   by_cases e:i=n - 1
   ·subst e;rw [show ((n:Int) - 1).toNat=n - 1 by omega] at hx;rw [zK hx];omega
   ·exact h2 i oM
  ·have h5:dig a (n - 1)≠0:=by
    rw [show ((n:Int) - 1).toNat=n - 1 by omega] at hx;rw [zK hx];omega
   rw [post n h1 h2 (.inr h5)];refine ⟨Dig,dgE,[],rfl,Ob.mk zcP ?_⟩;refine ⟨Nat,fun i=>⟨[(5,i64 i),(3,i64 n),(4,.own 0),(0,.sl dgE a)],[(0,kU (a.take i))],1,34,0⟩,fun i=>i<=n,fun i=>n - i,0,?_,?_,?_⟩
   ·exact Nat.zero_le _
   ·exact zh [(0,some 0)]
   rintro i hi
   have hi:i<=n:=hi;refine Br.mk (fun k1=>?_) (fun k1=>?_)
   ·refine Ob.o ?_;intro y hy;refine ⟨Dig,dgE,[y],rfl,Ob.mk (zer y) ?_⟩;refine ⟨_,rfl,Ob.mk (zes (by simp;omega)) ?_⟩;refine Ar.o ?_
    refine ⟨i+1,by show i+1<=n;omega,uP [(0,some 2)] rfl rfl rfl ⟨rfl,rfl,rfl,rfl,trivial⟩
     ⟨congrArg (fun l=>some (kU l)) (by rw [List.take_add_one,show a[i]? =some y from hy];rfl),trivial⟩,by dsimp only;omega⟩
   ·have hin:i=n:=by omega
    subst hin;exact ⟨some 0,.own _ rfl,rfl,fun _ _=>rfl⟩
 ·have h5:n=0:=by omega
  rw [post n h1 h2 (.inl h5)];refine ⟨Dig,dgE,[],rfl,Ob.mk zcP ?_⟩;refine ⟨Nat,fun i=>⟨[(5,i64 i),(3,i64 n),(4,.own 0),(0,.sl dgE a)],[(0,kU (a.take i))],1,34,0⟩,fun i=>i<=n,fun i=>n - i,0,?_,?_,?_⟩
  ·exact Nat.zero_le _
  ·exact zh [(0,some 0)]
  rintro i hi
  have hi:i<=n:=hi;refine Br.mk (fun k1=>?_) (fun k1=>?_)
  ·refine Ob.o ?_;intro y hy;refine ⟨Dig,dgE,[y],rfl,Ob.mk (zer y) ?_⟩;refine ⟨_,rfl,Ob.mk (zes (by simp;omega)) ?_⟩;refine Ar.o ?_
   refine ⟨i+1,by show i+1<=n;omega,uP [(0,some 2)] rfl rfl rfl ⟨rfl,rfl,rfl,rfl,trivial⟩
    ⟨congrArg (fun l=>some (kU l)) (by rw [List.take_add_one,show a[i]? =some y from hy];rfl),trivial⟩,by dsimp only;omega⟩
  ·have hin:i=n:=by omega
   subst hin;exact ⟨some 0,.own _ rfl,rfl,fun _ _=>rfl⟩
theorem jP(a:List Dig)(i:Int)(hi:0<=i):zd Tryz.prog 280 [.sl dgE a,i64 i] [] (u64 (dig a i.toNat)) []:=by
 refine zc tok mix Tryz.func280 rfl rfl rfl ?_;refine Br.mk (fun h=>?_) (fun h=>?_)
 ·omega
 intro hl;refine Br.mk (fun h2=>?_) (fun h2=>?_)
 ·exact zu (by rw [u3 oM];rfl)
 ·refine Ob.o ?_;intro x hx;have:=x.isLt;refine Ar.o ?_;exact zu (by rw [zK hx])
theorem vy{n:Nat}{e:Int}(h:e=n):((dof n).val:Int)=IntKind.u32.wrap e:=by rw [zgr,zvV,h];omega
theorem zdM{a b:List Dig}{j:Nat}(h:∀i,j+1<=i->dig a i=dig b i)(hl:dig a j < dig b j):val a < val b:=by
 have e1:=ky a j;have e2:=ky b j;have e3:=qq a j;have e4:=zz a j;have e5:=zz b j;have e6:=zbL h;have:val (a.drop j)+1<=val (b.drop j):=oM;have:=Nat.mul_le_mul_left (4294967296 ^ j) this;rw [Nat.mul_add] at this;omega
theorem zqL(a b:List Dig)(ha:a.length<=1000000000)(hb:b.length<=1000000000):
  zd Tryz.prog 281 [.sl dgE a,.sl dgE b] [] (i64 (zdL (val a) (val b))) []:=by
 refine zc tok mix Tryz.func281 rfl rfl rfl ?_;intro hl1 hl2;refine Ar.fit (by simp only [zcU];omega) ?_;refine ⟨Nat,fun j=>⟨[(5,i64 ((j:Int) - 1)),(0,.sl dgE a),(1,.sl dgE b)],[],0,30,0⟩,fun j=>j<=1000000000/\∀i,j<=i->dig a i=dig b i,fun j=>j,max a.length b.length,?_,?_,?_⟩
 ·exact ⟨oM,fun i hi=>by rw [u3 oM,u3 oM]⟩
 ·exact z0 [] ⟨congrArg (fun n=>some (i64 n)) (by simp only [zcU];omega),rfl,rfl,trivial⟩ trivial
 rintro j ⟨h1,h2⟩
 refine Br.mk (fun h3=>?_) (fun h3=>?_)
 ·have e:((j:Int) - 1).toNat=j - 1:=by omega
  have h2':∀i,j - 1+1<=i->dig a i=dig b i:=fun i hi=>h2 i oM
  refine zb.t (jP a _ oM) ?_;refine zb.t (jP b _ oM) ?_;refine Br.mk (fun h4=>?_) (fun h4=>?_)
  ·have:=zdM h2' (by rw [e] at h4;omega);exact zu (by rw [zdL,if_pos this])
  refine zb.t (jP a _ oM) ?_;refine zb.t (jP b _ oM) ?_;refine Br.mk (fun h5=>?_) (fun h5=>?_)
  ·have:=zdM (fun i hi=>(h2' i hi).symm) (by rw [e] at h5;omega);exact zu (by rw [zdL,if_neg oM,if_pos this])
  refine Ar.o ?_;refine ⟨j - 1,⟨oM,fun i hi=>?_⟩,z0 [] ⟨congrArg (fun n=>some (i64 n)) oM,rfl,rfl,trivial⟩ trivial,by dsimp only;omega⟩
  by_cases hij:i=j - 1
  ·subst hij;rw [e] at h4 h5;omega
  ·exact h2 i oM
 ·have hj:j=0:=by omega
  subst hj;have:=zh4 fun i=>h2 i (Nat.zero_le _)
  exact zu (by rw [zdL,if_neg oM,if_neg oM])
theorem zuQ(a b:List Dig)(ha:a.length<=900000000)(hb:b.length<=900000000):
  zd Tryz.prog 227 [.sl dgE a,.sl dgE b] [] (.own 0) [(0,kU (zm (val a+val b)))]:=by
 refine jD tok mix Tryz.func227 rfl rfl rfl ?_;refine ⟨Dig,dgE,[],rfl,Ob.mk zcP ?_⟩
 refine ⟨Nat×List Dig×Nat,fun q=>⟨[(7,i64 q.1),(6,u64 q.2.2),(5,.own 0),(0,.sl dgE a),(1,.sl dgE b)],[(0,kU q.2.1)],1,42,0⟩,
  fun q=>q.1<=max a.length b.length/\q.2.1.length=q.1/\q.2.2<=1/\val q.2.1+4294967296 ^ q.1*q.2.2=val (a.take q.1)+val (b.take q.1),fun q=>max a.length b.length - q.1,(0,[],0),?_,?_,?_⟩
 ·exact ⟨Nat.zero_le _,rfl,Nat.zero_le _,rfl⟩
 ·exact zh [(0,some 0)]
 rintro ⟨i,out,c⟩ ⟨h1,h2,h3,h4⟩
 dsimp only at h1 h2 h3 h4;intro hl1 hl2;refine Br.mk (fun h5=>?_) (fun h5=>?_)
 ·simp only [zcU] at h5;have d1:=jU a i;have d2:=jU b i;refine zb.t (jP a _ oM) ?_;refine zb.t (jP b _ oM) ?_;simp only [Int.toNat_natCast];(iterate 2 refine Ar.o ?_);refine Ar.wrap ?_;refine ⟨Dig,dgE,[dof (dig a i+dig b i+c)],congrArg (fun n=>[u32 n]) (vy oM),Ob.mk (zer _) ?_⟩;refine ⟨_,rfl,Ob.mk (zes (by simp;omega)) ?_⟩;refine Ob.o1 ?_;refine Ar.o ?_
  refine ⟨(i+1,out++[dof (dig a i+dig b i+c)],(dig a i+dig b i+c) / 4294967296),⟨by dsimp only;omega,by simp [h2],by dsimp only;omega,?_⟩,
   z0 [(0,some 2)] ⟨rfl,congrArg (fun n=>some (u64 n)) (by dsimp only;omega),rfl,rfl,rfl,trivial⟩ ⟨rfl,trivial⟩,by dsimp only;omega⟩
  dsimp only;rw [yZ,h2,zvV,zG,zG,Nat.pow_succ];have e:=Nat.div_add_mod (dig a i+dig b i+c) 4294967296;generalize (dig a i+dig b i+c) / 4294967296=x at*;generalize (dig a i+dig b i+c) % 4294967296=y at*;generalize 4294967296 ^ i=p at*
  grind
 ·simp only [zcU] at h5;have hi:i=max a.length b.length:=oM;refine Ar.wrap ?_;refine ⟨Dig,dgE,[dof c],congrArg (fun n=>[u32 n]) (vy rfl),Ob.mk (zer _) ?_⟩;refine ⟨_,rfl,Ob.mk (zes (by simp;omega)) ?_⟩;refine zb.fresh _ _ (qO _ (by simp;omega)) rfl (qn _) (.inr (qe _)) ?_;refine ⟨some 3,.own _ rfl,?_,fun _ _=>rfl⟩
  have e:val (out++[dof c])=val a+val b:=by
   rw [yZ,h2,zvV,Nat.mod_eq_of_lt oM,h4,kz oM,kz oM]
  rw [← e];rfl
end Go.Gs
