/- Numbers held in a range. -/
import Derived.Test.YtakicgnbhdpknaaGreatDoorNAN
set_option maxRecDepth 100000
set_option maxHeartbeats 8000000
set_option linter.all false
namespace Go.Gs
open Proofs.Tryz
open Go.Proofs
def kS(n lo hi:Int):Int:=if n<lo then lo else if hi<n then hi else n
def znW(n lo hi:Int):CX 166 [i64 n,i64 lo,i64 hi] (i64 (kS n lo hi)):=by
 refine zc func166<|Br.mk (λh=>?_) (λh=>?_)
 ·exact ze (by simp[kS,h])
 refine⟨λh2=>?_,λh2=>?_⟩
 ·exact ze (by simp[kS,h,h2])
 exact ze (by simp[kS,h,h2])
def zdx{n lo hi:Int}(_:lo<=hi):kS n lo hi=n↔lo<=n/\n<=hi:=by
 unfold kS;split <;> (try split) <;> omega
structure Pt where
 x:Int
 y:Int
 deriving DecidableEq
def ptE(p:Pt):LR:=[i64 p.x,i64 p.y]
def zp:Pt:=⟨0,0⟩
def zr(p:Pt):Prop:=(-1048576<=p.x/\p.x<=1048576)/\(-1048576<=p.y/\p.y<=1048576)
instance (p:Pt):Decidable (zr p):=wi
def qi{p q:Pt}:(p.x=q.x/\p.y=q.y/\True)↔p=q:=by
 cases p;cases q;simp
def zw8(n:Int):CX 163 [i64 n] (i64 (kS n (-1048576) 1048576)):=by
 exact zc func163<|wg (znW n _ _)<|.refl
def zw9(p:Pt):CX 111 [.agg (ptE p)] (.agg [i64 (kS p.x (-1048576) 1048576),i64 (kS p.y (-1048576) 1048576)]):=by
 exact zc func111<|wc<|wg (zw8 p.x)<|wg (zw8 p.y)<|.refl
def kY(p:Pt):CX 76 [.agg (ptE p)] (pr (zr p)):=by
 refine zc func76<|wc<|wg (zw9 p)<|zE (p:=kS p.x (-1048576) 1048576=p.x/\kS p.y (-1048576) 1048576=p.y/\True) ?_;rw[zdx dC,zdx dC];exact⟨λh=>⟨h.1,h.2.1⟩,λh=>⟨h.1,h.2,tV⟩⟩
def z9(p:Pt):CX 85 [.agg (ptE p)] (pr (zr p)):=by
 refine zc func85<|Br.mk (λh1=>?_) (λh1=>zd (λh=>h1 h.1.1));refine⟨λh2=>?_,λh2=>zd (λh=>h2 h.1.2)⟩;refine⟨λh3=>?_,λh3=>zd (λh=>h3 h.2.1)⟩;exact zE ⟨λh4=>⟨⟨h1,h2⟩,⟨h3,h4⟩⟩,λh=>h.2.2⟩
abbrev Dig:=Fin 4294967296
def val:List Dig->Nat
 |[]=>0
 |d::r=>d.val+4294967296*val r
def zm(n:Nat):List Dig:=
 if h:n=0 then[] else⟨n%4294967296,Kk _ dC⟩::zm (n/4294967296)
termination_by n
decreasing_by exact Yb (Ka h) dC
def dig(xs:List Dig)(i:Nat):Nat:=match xs[i]? with
 |some d=>d.val
 |none=>0
def zdy(i:Nat):0<4294967296^i:=KW dC
def yS(xs:List Dig)(i:Nat):dig xs i<4294967296:=by
 unfold dig;split
 ·exact Fin.isLt _
 decide
variable{xs:List Dig}{i:Nat}
def zV{d:Dig}(h:xs[i]?=some d):dig xs i=d.val:=by simp[dig,h]
def zaL(h:xs.length<=i):dig xs i=0:=by simp[dig,h]
def ze3(d:Dig)(r:List Dig):dig (d::r) 0=d.val:=rfl
def vZ(d:Dig)(r:List Dig)(i:Nat):dig (d::r) (i+1)=dig r i:=by simp[dig]
def zxa(xs:List Dig)(k i:Nat):dig (xs.take k) i=if i<k then dig xs i else 0:=by
 by_cases h:i<k <;> simp[dig,XI,h]
def jR(xs:List Dig)(i j:Nat)(d:Dig):dig (xs.set i d) j=if i=j/\i<xs.length then d.val else dig xs j:=by
 simp only[dig,KA]
 by_cases h:i=j
 ·subst h
  by_cases h2:i<xs.length
  ·simp[h2]
  simp[h2];
 simp[h]
def zr1(xs ys:List Dig)(i:Nat):dig (xs++ys) i=if i<xs.length then dig xs i else dig ys (i-xs.length):=by
 by_cases h:i<xs.length <;> simp[dig,KO,h]
def yN(n i:Nat):dig (List.replicate n (0:Dig)) i=0:=by
 simp only[dig,List.getElem?_replicate];by_cases h:i<n <;> simp[h]
def znX:val []=0:=rfl
def vm(d:Dig)(r:List Dig):val (d::r)=d.val+4294967296*val r:=rfl
def vL:∀xs ys:List Dig,val (xs++ys)=val xs+4294967296^xs.length*val ys
 |[],ys=>by simp[val]
 |x::xs,ys=>by
  simp only[Jq,val,vL xs ys,Xn,XU]
  grind
def q9:∀xs:List Dig,val xs<4294967296^xs.length
 |[]=>by simp[val]
 |x::xs=>by
  have h:=q9 xs;have:=x.isLt;simp only[val,Xn,XU];omega
def kR(xs:List Dig)(i:Nat):val xs=val (xs.take i)+4294967296^i*val (xs.drop i):=by
 by_cases h:i<=xs.length
 ·have:=vL (xs.take i) (xs.drop i);rw[Kj,Xo,Qa h]at this;exact this
 rw[Xi oM,Kx oM];simp[val]
def qR(xs:List Dig)(i:Nat):val (xs.take i)<4294967296^i:=by
 have h:=q9 (xs.take i);have:(xs.take i).length<=i:=by simp;omega
 exact Xw h (XH dC this)
def zG(xs:List Dig)(i:Nat):val (xs.drop i)=dig xs i+4294967296*val (xs.drop (i+1)):=by
 by_cases h:i<xs.length
 ·rw[KS h,vm,zV (Xb h)]
 rw[Kx oM,Kx oM,zaL oM];rfl
def zR(xs:List Dig)(i:Nat):val (xs.take (i+1))=val (xs.take i)+4294967296^i*dig xs i:=by
 have h1:=kR xs i;have h2:=kR xs (i+1);have h3:=zG xs i;rw[XU]at h2;rw[h3]at h1;generalize 4294967296^i=q at*;generalize val (xs.take (i+1))=a at*;generalize val (xs.take i)=b at*;generalize val (xs.drop (i+1))=c at*;have:q*(dig xs i+4294967296*c)=q*dig xs i+q*4294967296*c:=by rw[KE,KC]
 omega
def kT(h:xs.length<=i):val (xs.take i)=val xs:=by rw[Xi h]
def zlK(xs:List Dig):val (xs.take 0)=0:=rfl
def z8(h:xs.length<=i):val (xs.drop i)=0:=by rw[Kx h];rfl
def v6:∀(xs:List Dig) (i:Nat) (d:Dig),i<xs.length->val (xs.set i d)+4294967296^i*dig xs i=val xs+4294967296^i*d.val
 |[],i,d,h=>by simp at h
 |x::xs,0,d,_=>by simp only[List.set_cons_zero,val,ze3];omega
 |x::xs,i+1,d,h=>by
  have ih:=v6 xs i d (by simpa using h);simp only[JK,val,vZ,XU]
  grind
def vn(xs:List Dig)(d:Dig):val (xs++[d])=val xs+4294967296^xs.length*d.val:=by
 rw[vL];simp[val]
def zaT(n:Nat):val (List.replicate n (0:Dig))=0:=by
 induction n with
 |zero=>rfl
 |succ n ih=>rw[List.replicate_succ,vm,ih];rfl
def jZ:zm 0=[]:=by unfold zm;rfl
def zgh{n:Nat}(h:n≠0):zm n=⟨n%4294967296,Kk _ dC⟩::zm (n/4294967296):=by
 rw[zm];simp[h]
def zo(n:Nat):val (zm n)=n:=by
 induction n using Nat.strongRecOn with
 |_ n ih=>
  by_cases h:n=0
  ·subst h;rw[jZ];rfl
  rw[zgh h,vm,ih _ (Yb (Ka h) dC)];show n%4294967296+_=n;omega
def zpA(xs:List Dig):Prop:=xs=[]∨dig xs (xs.length-1)≠0
def ze4:∀{xs:List Dig},zpA xs->xs≠[]->val xs≠0
 |[],_,h=>absurd rfl h
 |[x],h,_=>by
  rcases h with h|h
  ·cases h
  have:dig [x] ([x].length-1)=x.val:=rfl;simp only[val];omega
 |x::y::r,h,_=>by
  have h':zpA (y::r):=by
   rcases h with h|h
   ·cases h
   right
   simp only[Xn,Qr]at h ⊢;rw[vZ]at h;exact h
  have:=ze4 h' sI;rw[vm];omega
def zpB:∀{xs:List Dig},zpA xs->zm (val xs)=xs
 |[],_=>jZ
 |x::r,h=>by
  have hp:=ze4 h sI
  have h':zpA r:=by
   rcases h with h|h
   ·cases h
   cases r with
   |nil=>exact .inl rfl
   |cons y r=>
    right
    simp only[Xn,Qr]at h ⊢;rw[vZ]at h;exact h
  have hx:=x.isLt;rw[zgh hp];have e1:val (x::r)%4294967296=x.val:=by rw[vm];omega
  have e2:val (x::r)/4294967296=val r:=by rw[vm];omega
  rw[e2,zpB h'];congr 1;exact Fin.ext e1
def vM(n:Nat):zpA (zm n):=by
 induction n using Nat.strongRecOn with
 |_ n ih=>
  by_cases h:n=0
  ·subst h;rw[jZ];exact .inl rfl
  have ih:=ih _ (Yb (Ka h) (show 1<4294967296 by decide))
  right
  rw[zgh h]
  rcases ih with ih|ih
  ·have e:=zo (n/4294967296);rw[ih]at e ⊢;simp only[val]at e;show n%4294967296≠0;omega
  by_cases he:zm (n/4294967296)=[]
  ·rw[he]at ih;exact absurd (by rfl) ih
  obtain⟨y,r,he⟩:=List.exists_cons_of_ne_nil he;rw[he]at ih ⊢;simp only[Xn,Qr]at ih ⊢;rw[vZ];exact ih
def zjX{n:Nat}(h:n=0∨dig xs (n-1)≠0)(hn:n<=xs.length)(hz:∀i,n<=i->dig xs i=0):xs.take n=zm (val xs):=by
 have e:val xs=val (xs.take n):=by
  rw[kR xs n]
  have:val (xs.drop n)=0:=by
   have key:∀k,val (xs.drop (n+k))=0∨k<=xs.length:=λk=>by
    by_cases hk:k<=xs.length
    ·exact .inr hk
    exact .inl (z8 oM)
   have down:∀j,val (xs.drop (n+(xs.length-j)))=0:=by
    intro j
    induction j with
    |zero=>exact z8 oM
    |succ j ih=>
     by_cases hj:j<xs.length
     ·rw[zG,hz _ oM,show n+(xs.length-(j+1))+1=n+(xs.length-j) by omega,ih]
     rw[show n+(xs.length-(j+1))=n+(xs.length-j) by omega];exact ih
   have:=down xs.length
   simpa using this
  rw[this];simp
 rw[e,zpB]
 by_cases hn0:n=0
 ·subst hn0;exact .inl rfl
 right
 rw[Xo,Qa hn,zxa,Xe oM];exact h.resolve_left hn0
def jM{n k:Nat}(h:n<4294967296^k):(zm n).length<=k:=by
 induction k generalizing n with
 |zero=>
   have:n=0:=by simpa using h
   subst this;rw[jZ];simp
 |succ k ih=>
  by_cases h0:n=0
  ·subst h0;rw[jZ];simp
  rw[zgh h0,Xn]
  have:n/4294967296<4294967296^k:=by
   rw[XS dC];rwa [XU]at h
  have:=ih this;omega
def zcD{n k:Nat}(h:(zm n).length<=k):n<4294967296^k:=by
 have:=q9 (zm n);rw[zo]at this;exact Xw this (XH dC h)
def zJ(xs:List Dig):(zm (val xs)).length<=xs.length:=jM (q9 xs)
def yF{n:Nat}:zm n=[]↔n=0:=by
 constructor
 ·intro h;have:=zo n;rw[h]at this;exact this.symm
 rintro rfl;exact jZ
def jz{n:Nat}:0<(zm n).length↔n≠0:=by
 rw[JD,Ne,yF]
def znY{n:Nat}(h:n≠0):4294967296^((zm n).length-1)<=n:=by
 rcases Qe n (4294967296^((zm n).length-1)) with h1|h1
 ·have:=jM h1;have:=jz.2 h;omega
 exact h1
def qm{m n:Nat}(h:m<=n):(zm m).length<=(zm n).length:=jM (K4 h (zcD (Xk _)))
def zdz{xs ys:List Dig}{k:Nat}(h:∀i,k<=i->dig xs i=dig ys i):val (xs.drop k)=val (ys.drop k):=by
 have down:∀j,∀k',k<=k'->max xs.length ys.length<=k'+j->val (xs.drop k')=val (ys.drop k'):=by
  intro j
  induction j with
  |zero=>intro k' _ hk;rw[z8 oM,z8 oM]
  |succ j ih=>
   intro k' hk hj;rw[zG,zG ys,h k' hk,ih (k'+1) oM oM]
 exact down (max xs.length ys.length) k (Xk _) oM
variable{ys:List Dig}
def zmh(h:∀i,dig xs i=dig ys i):val xs=val ys:=by
 have:=zdz (k:=0) (xs:=xs) (ys:=ys) (λi _=>h i)
 simpa using this
def zAu(xs:List Dig)(i:Nat):dig xs i=val xs/4294967296^i%4294967296:=by
 have h1:=kR xs i;have h2:=qR xs i;have h3:=zG xs i;have h4:=yS xs i
 have e:val xs/4294967296^i=val (xs.drop i):=by
  rw[h1,J6,Qy (zdy i),Kh h2,XP]
 rw[e,h3];omega
def zjY(xs:List Dig)(i:Nat):val (xs.drop i)=val xs/4294967296^i:=by
 have h1:=kR xs i;have h2:=qR xs i;rw[h1,J6,Qy (zdy i),Kh h2,XP]
def zpC(xs:List Dig)(i:Nat):val (xs.take i)=val xs%4294967296^i:=by
 have h1:=kR xs i;have h2:=qR xs i;rw[h1,JO,Xy h2]
def dof(n:Nat):Dig:=⟨n%4294967296,Kk _ dC⟩
def ky(n:Nat):(dof n).val=n%4294967296:=rfl
def kA(n:Nat):Nat:=if n=0 then 0 else n.log2+1
def zdA(n:Nat):n<2^kA n:=by
 unfold kA;split
 ·subst_vars;decide
 exact Nat.lt_log2_self
def zbX{n:Nat}(h:n≠0):2^(kA n-1)<=n:=by
 unfold kA;rw[Xc h];exact Nat.log2_self_le h
def zgi{n k:Nat}(h1:n<2^k)(h2:n≠0)(h3:2^(k-1)<=n):kA n=k:=by
 have a:=zdA n;have b:=zbX h2;have c:2^(kA n-1)<2^k:=K4 b h1;have d:2^(k-1)<2^kA n:=K4 h3 a;have c:=(QD (by decide:1<2)).1 c;have d:=(QD (by decide:1<2)).1 d;have:0<kA n:=by unfold kA;rw[Xc h2];omega
 have:k≠0:=by rintro rfl;simp at h1;exact h2 h1
 omega
def zr2:kA 0=0:=rfl
def zbY{n:Nat}:0<kA n↔n≠0:=by
 unfold kA;split <;> omega
def zbb(k:Nat):4294967296^k=2^(32*k):=by rw[show 4294967296=2^32 by decide,←Nat.pow_mul]
def zu4{n:Nat}(h:2<=n):n.log2=(n/2).log2+1:=by rw[Nat.log2_def,Xe h]
def zr3{n:Nat}(h:n≠0):kA n=kA (n/2)+1:=by
 unfold kA;rw[Xc h]
 by_cases h1:n/2=0
 ·rw[Xe h1];have:n=1:=oM;subst this;rfl
 rw[Xc h1,zu4 oM]
def zbZ(hn:dig xs (xs.length-1)≠0):kA (val xs)=32*(xs.length-1)+kA (dig xs (xs.length-1)):=by
 have hl:0<xs.length:=by
  rcases Kr xs.length with h|h
  ·rw[XM.1 h]at hn;exact absurd rfl hn
  exact h
 have e1:=kR xs (xs.length-1);have e2:=qR xs (xs.length-1);have e3:=zG xs (xs.length-1);rw[show xs.length-1+1=xs.length by omega,z8 (Xk _),Ko,XP]at e3;rw[e3]at e1;generalize dig xs (xs.length-1)=t at*;have p1:=zdA t;have p2:=zbX hn;rw[zbb]at e1 e2;have p0:0<2^(32*(xs.length-1)):=KW dC;have np:0<kA t:=zbY.2 hn;refine zgi ?_ ?_ ?_
 ·rw[Ke];have:2^(32*(xs.length-1))*(t+1)<=2^(32*(xs.length-1))*2^kA t:=Kf _ p1;rw[KE,Jb]at this;omega
 ·have:2^(32*(xs.length-1))*1<=2^(32*(xs.length-1))*t:=Kf _ oM;omega
 rw[show 32*(xs.length-1)+kA t-1=32*(xs.length-1)+(kA t-1) by omega,Ke];have:2^(32*(xs.length-1))*2^(kA t-1)<=2^(32*(xs.length-1))*t:=Kf _ p2;omega
def zdB{xs:List Dig}{N:Nat}(h:∀j,j<xs.length->dig xs j=N/4294967296^j%4294967296):val xs=N%4294967296^xs.length:=by
 have key:∀i,i<=xs.length->val (xs.take i)=N%4294967296^i:=by
  intro i
  induction i with
  |zero=>intro _;rw[Jj,Nat.mod_one];rfl
  |succ i ih=>
   intro hi;rw[zR,ih oM,h i oM,XU,Nat.mod_mul]
 have:=key xs.length (Xk _)
 rwa [X1]at this
def ztt(xs:List Dig)(w s j:Nat)(hs:s<32):val xs/2^(32*w+s)/4294967296^j%4294967296=(dig xs (w+j+1)*4294967296+dig xs (w+j))/2^s%4294967296:=by
 have e:val xs/2^(32*w+s)/4294967296^j=val (xs.drop (w+j))/2^s:=by
  rw[zjY,J8,J8];congr 1;rw[zbb,zbb,←Ke,←Ke];congr 1;omega
 rw[e,zG,zG];generalize val (xs.drop (w+j+1+1))=R;generalize dig xs (w+j+1)=x;generalize dig xs (w+j)=y;have hp:2^s*2^(32-s)=4294967296:=by rw[←Ke,show s+(32-s)=32 by omega]
 have:y+4294967296*(x+4294967296*R)=(x*4294967296+y)+2^s*(2^(32-s)*4294967296*R):=by
  rw[show 2^s*(2^(32-s)*4294967296*R)=(2^s*2^(32-s))*4294967296*R by simp only[KC],hp];omega
 rw[this,Nat.add_mul_div_left _ _ (KW dC)];rw[show 2^(32-s)*4294967296*R=4294967296*(2^(32-s)*R) by rw[Ks (2^(32-s)),KC],JO]
def dgE(d:Dig):LR:=[.val (.int .u32 (d.val:Int))]
abbrev u32(n:Int):SV:=.val (.int .u32 n)
abbrev u64(n:Int):SV:=.val (.int .u64 n)
abbrev qr(xs:List Dig):Mem:=.arr 179 dgE 1 xs
def qP(xs:List Dig):zfY (qr xs):=λ_ _=>rfl
def qD(xs:List Dig):ziP (qr xs):=λ_ _=>rfl
def zjZ(e:Int):IntKind.u32.wrap e=e%4294967296:=rfl
def yl(e:Int):IntKind.u64.wrap e=e%18446744073709551616:=rfl
def zhq(d:Dig):[d].length=1/\1<=281474976710656/\1*1<=16777216/\0<1/\∀x∈[d],(dgE x).length=1/\jY (dgE x)=true/\j9.flats (dgE x)=true:=
 ⟨rfl,dC,dC,dC,λ_ _=>⟨rfl,rfl,rfl⟩⟩
def ze5:([]:List Dig).length=0/\0<=281474976710656/\0*1<=16777216/\0<1/\∀x∈([]:List Dig),(dgE x).length=1/\jY (dgE x)=true/\j9.flats (dgE x)=true:=
 ⟨rfl,dC,dC,dC,λ_ _=>⟨rfl,rfl,rfl⟩⟩
def zhr(h:xs.length+ys.length<=2000000000):((xs.length+ys.length:Int)*(4:Nat)<=140737488355328/\xs.length+ys.length<=281474976710656/\0<1/\∀x∈ys,(dgE x).length=1):=
 ⟨oM,oM,dC,λ_ _=>rfl⟩
def zgj(a b:Nat):Int:=if a<b then-1 else if b<a then 1 else 0
variable{a:Nat}{b:Nat}
def zel:zgj a b<0↔a<b:=by
 unfold zgj;split
 ·simp_all
 split <;> simp_all
def ztu:0<zgj a b↔b<a:=by
 unfold zgj;split
 ·simp;omega
 split <;> simp_all
def jA(a:List Dig)(ha:a.length<=1000000000):CG0 297 [.sl dgE a] [] (.own 0) [(0,qr (zm (val a)))]:=by
 refine qC tok mix func297 rfl rfl rfl λhl0=>?_;refine⟨Nat,λn=>⟨[(3,i64 n),(0,.sl dgE a)],[],0,34,0⟩,λn=>n<=a.length/\∀i,n<=i->dig a i=0,λn=>n,a.length,?_,?_,?_⟩
 ·exact⟨Xk _,λi h=>zaL h⟩
 ·exact zB []
 rintro n ⟨h1,h2⟩
 have post:∀(n:Nat),n<=a.length->(∀i,n<=i->dig a i=0)->(n=0∨dig a (n-1)≠0)->zm (val a)=a.take n:=λn h1 h2 h3=>(zjX h3 h1 h2).symm
 refine⟨λh3=>?_,λh3=>?_⟩
 ·refine wa<|wb λx hx=>?_;refine⟨λh4=>?_,λh4=>?_⟩
  ·refine wa<|⟨n-1,⟨oM,λi hi=>?_⟩,ji [] ⟨iR oM,rfl,tV⟩ trivial,oN⟩
   by_cases e:i=n-1
   ·subst e;rw[show((n:Int)-1).toNat=n-1 by omega]at hx;rw[zV hx];omega
   exact h2 i oM
  have h5:dig a (n-1)≠0:=by
   rw[show((n:Int)-1).toNat=n-1 by omega]at hx;rw[zV hx];omega
  rw[post n h1 h2 (.inr h5)];refine⟨Dig,dgE,[],rfl,Ob.mk ze5 ?_⟩;refine⟨Nat,λi=>⟨[(5,i64 i),(3,i64 n),(4,.own 0),(0,.sl dgE a)],[(0,qr (a.take i))],1,34,0⟩,λi=>i<=n,λi=>n-i,0,?_,?_,?_⟩
  ·exact Xh _
  ·exact zf [0]
  rintro i hi
  have hi:i<=n:=hi;refine⟨λk1=>?_,λk1=>?_⟩
  ·refine wb λy hy=>?_;refine⟨Dig,dgE,[y],rfl,Ob.mk (zhq y) ?_⟩;refine⟨_,rfl,Ob.mk (zhr (by simp;omega)) ?_⟩;refine wa ?_
   refine⟨i+1,by show i+1<=n;omega,qF [(0,some 2)] rfl rfl rfl ⟨rfl,rfl,rfl,rfl,tV⟩
    ⟨Xg (λl=>some (qr l)) (by rw[Xl,show a[i]?=some y from hy];rfl),tV⟩,oN⟩
  have hin:i=n:=by omega
  subst hin;exact⟨some 0,.own _ rfl,rfl,λ_ _=>rfl⟩
 have h5:n=0:=by omega
 rw[post n h1 h2 (.inl h5)];refine⟨Dig,dgE,[],rfl,Ob.mk ze5 ?_⟩;refine⟨Nat,λi=>⟨[(5,i64 i),(3,i64 n),(4,.own 0),(0,.sl dgE a)],[(0,qr (a.take i))],1,34,0⟩,λi=>i<=n,λi=>n-i,0,?_,?_,?_⟩
 ·exact Xh _
 ·exact zf [0]
 rintro i hi
 have hi:i<=n:=hi;refine⟨λk1=>?_,λk1=>?_⟩
 ·refine wb λy hy=>?_;refine⟨Dig,dgE,[y],rfl,Ob.mk (zhq y) ?_⟩;refine⟨_,rfl,Ob.mk (zhr (by simp;omega)) ?_⟩;refine wa ?_
  refine⟨i+1,by show i+1<=n;omega,qF [(0,some 2)] rfl rfl rfl ⟨rfl,rfl,rfl,rfl,tV⟩
   ⟨Xg (λl=>some (qr l)) (by rw[Xl,show a[i]?=some y from hy];rfl),tV⟩,oN⟩
 have hin:i=n:=by omega
 subst hin;exact⟨some 0,.own _ rfl,rfl,λ_ _=>rfl⟩
def yG(a:List Dig)(i:Int)(hi:0<=i):CX 414 [.sl dgE a,i64 i] (u64 (dig a i.toNat)):=by
 refine zc func414<|Br.mk (λh=>?_) (λh=>?_)
 ·omega
 intro hl;refine⟨λh2=>?_,λh2=>?_⟩
 ·exact ze (by rw[zaL oM];rfl)
 refine wb λx hx=>?_;have:=x.isLt;exact wa<|ze (by rw[zV hx])
def zbc{n:Nat}{e:Int}(h:e=n):((dof n).val:Int)=IntKind.u32.wrap e:=by rw[zjZ,ky,h];omega
def zgk{a b:List Dig}{j:Nat}(h:∀i,j+1<=i->dig a i=dig b i)(hl:dig a j<dig b j):val a<val b:=by
 have e1:=kR a j;have e2:=kR b j;have e3:=qR a j;have e4:=zG a j;have e5:=zG b j;have e6:=zdz h;have:val (a.drop j)+1<=val (b.drop j):=oM;have:=Kf (4294967296^j) this;rw[KE]at this;omega
def zxb(a b:List Dig)(ha:a.length<=1000000000)(hb:b.length<=1000000000):
  CX 416 [.sl dgE a,.sl dgE b] (i64 (zgj (val a) (val b))):=by
 refine zc func416 λhl1 hl2=>Ar.fit (by simp only[zcr];omega)<|⟨Nat,λj=>⟨[(5,i64 ((j:Int)-1)),(0,.sl dgE a),(1,.sl dgE b)],[],0,30,0⟩,λj=>j<=1000000000/\∀i,j<=i->dig a i=dig b i,λj=>j,max a.length b.length,?_,?_,?_⟩
 ·exact⟨oM,λi hi=>by rw[zaL oM,zaL oM]⟩
 ·exact ji [] ⟨iR (by simp only[zcr];omega),rfl,rfl,tV⟩ trivial
 rintro j ⟨h1,h2⟩
 refine⟨λh3=>?_,λh3=>?_⟩
 ·have e:((j:Int)-1).toNat=j-1:=by omega
  have h2':∀i,j-1+1<=i->dig a i=dig b i:=λi hi=>h2 i oM
  refine wg (yG a _ oM)<|wg (yG b _ oM)<|⟨λh4=>?_,λh4=>?_⟩
  ·have:=zgk h2' (by rw[e]at h4;omega);exact ze (by rw[zgj,Xe this])
  refine wg (yG a _ oM)<|wg (yG b _ oM)<|⟨λh5=>?_,λh5=>?_⟩
  ·have:=zgk (λi hi=>(h2' i hi).symm) (by rw[e]at h5;omega);exact ze (by rw[zgj,Xc oM,Xe this])
  refine wa<|⟨j-1,⟨oM,λi hi=>?_⟩,ji [] ⟨iR oM,rfl,rfl,tV⟩ trivial,oN⟩
  by_cases hij:i=j-1
  ·subst hij;rw[e]at h4 h5;omega
  exact h2 i oM
 have hj:j=0:=by omega
 subst hj;have:=zmh λi=>h2 i (Xh _)
 exact ze (by rw[zgj,Xc oM,Xc oM])
def zC8(a b:List Dig)(ha:a.length<=900000000)(hb:b.length<=900000000):
  CG0 357 [.sl dgE a,.sl dgE b] [] (.own 0) [(0,qr (zm (val a+val b)))]:=by
 refine qC tok mix func357 rfl rfl rfl<|⟨Dig,dgE,[],rfl,Ob.mk ze5 ?_⟩
 refine⟨Nat×List Dig×Nat,λq=>⟨[(7,i64 q.1),(6,u64 q.2.2),(5,.own 0),(0,.sl dgE a),(1,.sl dgE b)],[(0,qr q.2.1)],1,42,0⟩,
  λq=>q.1<=max a.length b.length/\q.2.1.length=q.1/\q.2.2<=1/\val q.2.1+4294967296^q.1*q.2.2=val (a.take q.1)+val (b.take q.1),λq=>max a.length b.length-q.1,(0,[],0),?_,?_,?_⟩
 ·exact⟨Xh _,rfl,Xh _,rfl⟩
 ·exact zf [0]
 rintro⟨i,out,c⟩ ⟨h1,h2,h3,h4⟩
 dsimp only at h1 h2 h3 h4;intro hl1 hl2;refine⟨λh5=>?_,λh5=>?_⟩
 ·simp only[zcr]at h5;have d1:=yS a i;have d2:=yS b i;refine wg (yG a _ oM)<|wg (yG b _ oM) ?_;simp only[XT];(iterate 2 refine wa ?_);refine Ar.wrap<|⟨Dig,dgE,[dof (dig a i+dig b i+c)],Xg (λn=>[u32 n]) (zbc oM),Ob.mk (zhq _) ?_⟩;refine⟨_,rfl,Ob.mk (zhr (by simp;omega)) ?_⟩;refine wb1<|wa ?_
  refine⟨(i+1,out++[dof (dig a i+dig b i+c)],(dig a i+dig b i+c)/4294967296),⟨oN,by simp[h2],oN,?_⟩,
   zS [2] ⟨rfl,Xg (λn=>some (u64 n)) oN,rfl,rfl,rfl,tV⟩ ⟨rfl,tV⟩,oN⟩
  dsimp only;rw[vn,h2,ky,zR,zR,XU];have e:=X8 (dig a i+dig b i+c) 4294967296;generalize (dig a i+dig b i+c)/4294967296=x at*;generalize (dig a i+dig b i+c)%4294967296=y at*;generalize 4294967296^i=p at*
  grind
 simp only[zcr]at h5;have hi:i=max a.length b.length:=oM;refine Ar.wrap<|⟨Dig,dgE,[dof c],Xg (λn=>[u32 n]) (zbc rfl),Ob.mk (zhq _) ?_⟩;refine⟨_,rfl,Ob.mk (zhr (by simp;omega)) ?_⟩;refine zb.fresh _ _ (jA _ (by simp;omega)) rfl (qP _) (.inr (qD _))<|⟨some 3,.own _ rfl,?_,λ_ _=>rfl⟩
 have e:val (out++[dof c])=val a+val b:=by
  rw[vn,h2,ky,Xy oM,h4,kT oM,kT oM]
 rw[←e];rfl
def uF(a:List Dig)(ha:a.length<=1000000000):CX 297 [.sl dgE a] (.sl dgE (zm (val a))):=
 (jA a ha).plain rfl
def ziX(a b:List Dig)(ha:a.length<=900000000)(hb:b.length<=900000000):
  CX 357 [.sl dgE a,.sl dgE b] (.sl dgE (zm (val a+val b))):=(zC8 a b ha hb).plain rfl
def zxc(a b:List Dig)(ha:a.length<=900000000)(hb:b.length<=900000000):
  CG0 358 [.sl dgE a,.sl dgE b] [] (.tup [.own 0,pr (val b<=val a)]) [(0,qr (zm (val a-val b)))]:=by
 refine qC tok mix func358 rfl rfl rfl<|wg (zxb a b oM oM)<|⟨λh=>?_,λh=>?_⟩
 ·have hlt:val a<val b:=zel.1 h;refine⟨none,zjV (.cons (.nil rfl) (.cons (.le _ _ (zd oM) rfl) .nil)),?_⟩;show zm (val a-val b)=[];rw[Yp oM];exact jZ
 have hle:val b<=val a:=QY λh'=>h (zel.2 h')
 refine⟨Dig,dgE,[],rfl,Ob.mk ze5 ?_⟩
 refine⟨Nat×List Dig×Nat,λ⟨i,out,c⟩=>⟨[(8,i64 i),(7,u64 c),(6,.own 0),(0,.sl dgE a),(1,.sl dgE b)],[(0,qr out)],1,41,0⟩,
  λq=>q.1<=a.length/\q.2.1.length=q.1/\q.2.2<=1/\val q.2.1+val (b.take q.1)=val (a.take q.1)+4294967296^q.1*q.2.2,λq=>a.length-q.1,(0,[],0),?_,?_,?_⟩
 ·exact⟨Xh _,rfl,Xh _,rfl⟩
 ·exact zf [0]
 rintro⟨i,out,c⟩ ⟨h1,h2,h3,h4⟩
 dsimp only at h1 h2 h3 h4;intro hl1;refine⟨λh5=>?_,λh5=>?_⟩
 ·have d1:=yS a i;have d2:=yS b i;refine wg (yG a _ oM) ?_;simp only[XT];refine wa<|wg (yG b _ oM) ?_;simp only[XT];(iterate 2 refine wa ?_);refine Ar.wrap<|⟨Dig,dgE,[dof (4294967296+dig a i-dig b i-c)],Xg (λn=>[u32 n]) (zbc oM),Ob.mk (zhq _) ?_⟩;refine⟨_,rfl,Ob.mk (zhr (by simp;omega)) ?_⟩;refine wb1<|Ar.fit (by simp only[Int.reducePow];omega)<|wa ?_
  refine⟨(i+1,out++[dof (4294967296+dig a i-dig b i-c)],1-(4294967296+dig a i-dig b i-c)/4294967296),⟨oN,by simp[h2],oN,?_⟩,
   zS [2] ⟨rfl,Xg (λn=>some (u64 n)) oN,rfl,rfl,rfl,tV⟩ ⟨rfl,tV⟩,oN⟩
  dsimp only;rw[vn,h2,ky,zR,zR,XU];have e:(4294967296+dig a i-dig b i-c)%4294967296+dig b i+c=dig a i+4294967296*(1-(4294967296+dig a i-dig b i-c)/4294967296):=oM;generalize 1-(4294967296+dig a i-dig b i-c)/4294967296=x at*;generalize (4294967296+dig a i-dig b i-c)%4294967296=y at*;generalize 4294967296^i=p at*
  have e2:p*y+p*dig b i+p*c=p*dig a i+p*4294967296*x:=by
   rw[←KE,←KE,e,KE,KC]
  omega
 have hi:i=a.length:=by omega
 refine zb.fresh _ _ (jA _ oM) rfl (qP _) (.inr (qD _))<|⟨some 1,zjV (.cons (.own _ rfl) (.cons (.le _ _ (zH hle) rfl) .nil)),?_,λ_ _=>rfl⟩
 have e:val out=val a-val b:=by
  subst hi;have e0:val (a.take a.length)=val a:=kT (Xk _);rw[e0]at h4;have e1:=kR b a.length;have e2:=q9 a
  have e3:val (b.drop a.length)=0:=by
   rcases Kr (val (b.drop a.length)) with h|h
   ·exact h
   have:=Kf (4294967296^a.length) h;omega
  have e4:=q9 out;rw[h2]at e4;rw[e3]at e1;have:c=0∨c=1:=oM
  rcases this with rfl|rfl <;> omega
 rw[←e];rfl
def znZ(a b:List Dig)(ha:a.length<=900000000)(hb:b.length<=900000000):
  CX 358 [.sl dgE a,.sl dgE b] (.tup [.sl dgE (zm (val a-val b)),pr (val b<=val a)]):=(zxc a b ha hb).plain rfl
variable{x:Nat}{c:Nat}
def zxd{y:Nat}(hx:x<4294967296)(hy:y<4294967296)(hc:c<4294967296):x*y+c<=18446744069414584320:=by
 have:x*y<=4294967295*4294967295:=Qs oM oM;omega
def zem{y:Nat}(hx:x<4294967296)(hy:y<4294967296):x*y<=18446744065119617025:=by
 have:x*y<=4294967295*4294967295:=Qs oM oM;omega
variable{p:Nat}{u:Nat}
def zpD{q y z v w o o0 r:Nat}(h4:o+p*q*c=o0+p*(x*w))(hs:r+p*q*z=o+p*q*v)(e:4294967296*u+v=x*y+z+c):
  r+p*q*4294967296*u=o0+p*(x*(w+q*y)):=by grind
def zxe(a:List Dig)(d:Nat)(ha:a.length<=900000000)(hd:d<4294967296):
  CG0 415 [.sl dgE a,u64 d] [] (.own 0) [(0,qr (zm (val a*d)))]:=by
 refine qC tok mix func415 rfl rfl rfl<|⟨Dig,dgE,[],rfl,Ob.mk ze5 ?_⟩
 refine⟨Nat×List Dig×Nat,λ⟨i,out,c⟩=>⟨[(7,i64 i),(6,u64 c),(5,.own 0),(0,.sl dgE a),(1,u64 d)],[(0,qr out)],1,39,0⟩,
  λq=>q.1<=a.length/\q.2.1.length=q.1/\q.2.2<4294967296/\val q.2.1+4294967296^q.1*q.2.2=val (a.take q.1)*d,λq=>a.length-q.1,(0,[],0),?_,?_,?_⟩
 ·exact⟨Xh _,rfl,dC,by simp[val]⟩
 ·exact zf [0]
 rintro⟨i,out,c⟩ ⟨h1,h2,h3,h4⟩
 dsimp only at h1 h2 h3 h4;intro hl1;refine⟨λh5=>?_,λh5=>?_⟩
 ·refine wb λx(hx:a[i]?=some x)=>?_;have dx:=zV hx;have hm:=zxd x.isLt hd h3;have hm0:=zem x.isLt hd;have hxl:=x.isLt;(iterate 3 refine wa ?_);refine Ar.wrap<|⟨Dig,dgE,[dof (x.val*d+c)],Xg (λn=>[u32 n]) (zbc oM),Ob.mk (zhq _) ?_⟩;refine⟨_,rfl,Ob.mk (zhr (by simp;omega)) ?_⟩;refine wb1<|wa ?_
  refine⟨(i+1,out++[dof (x.val*d+c)],(x.val*d+c)/4294967296),⟨oN,by simp[h2],oN,?_⟩,
   zS [2] ⟨rfl,Xg (λn=>some (u64 n)) oN,rfl,rfl,rfl,tV⟩ ⟨rfl,tV⟩,oN⟩
  dsimp only;rw[vn,h2,ky,zR,XU,dx];have e:=X8 (x.val*d+c) 4294967296;generalize (x.val*d+c)/4294967296=u at*;generalize (x.val*d+c)%4294967296=v at*;generalize 4294967296^i=p at*;generalize x.val=x at*;generalize val (a.take i)=w at*;clear hm hm0
  grind
 have hi:i=a.length:=by omega
 refine Ar.wrap<|⟨Dig,dgE,[dof c],Xg (λn=>[u32 n]) (zbc rfl),Ob.mk (zhq _) ?_⟩;refine⟨_,rfl,Ob.mk (zhr (by simp;omega)) ?_⟩;refine zb.fresh _ _ (jA _ (by simp;omega)) rfl (qP _) (.inr (qD _))<|⟨some 3,.own _ rfl,?_,λ_ _=>rfl⟩
 have e:val (out++[dof c])=val a*d:=by
  rw[vn,h2,ky,Xy oM,h4,kT oM]
 rw[←e];rfl
def zu5(a:List Dig)(d:Nat)(ha:a.length<=900000000)(hd:d<4294967296):
  CX 415 [.sl dgE a,u64 d] (.sl dgE (zm (val a*d))):=(zxe a d ha hd).plain rfl
def zC9(a b:List Dig)(ha:a.length<=400000000)(hb:b.length<=400000000):
  CG0 276 [.sl dgE a,.sl dgE b] [] (.own 0) [(0,qr (zm (val a*val b)))]:=by
 refine qC tok mix func276 rfl rfl rfl λhl1 hl2=>?_;(iterate 2 refine wa ?_);refine⟨Dig,dgE,0,rfl,wb7 ?_⟩
 refine⟨Nat×List Dig,λ⟨i,out⟩=>⟨[(6,i64 i),(5,.own 0),(0,.sl dgE a),(1,.sl dgE b)],[(0,qr out)],1,69,0⟩,
  λq=>q.1<=a.length/\q.2.length=a.length+b.length+1/\val q.2=val (a.take q.1)*val b/\∀j,q.1+b.length<=j->dig q.2 j=0,λq=>a.length-q.1,(0,List.replicate (a.length+b.length+1) 0),?_,?_,?_⟩
 ·exact⟨Xh _,sI,by simp[zaT,val],λj _=>yN _ _⟩
 ·exact zu [0] ⟨Xg (λn=>some (qr (List.replicate n 0))) oM,tV⟩
 rintro⟨i,out0⟩ ⟨h1,h2,h3,h4⟩
 dsimp only at h1 h2 h3 h4;intro hl3;refine⟨λh5=>?_,λh5=>?_⟩
 ·refine⟨Nat×List Dig×Nat,λ⟨k,out,c⟩=>⟨[(8,i64 k),(7,u64 c),(6,i64 i),(5,.own 0),(0,.sl dgE a),(1,.sl dgE b)],[(0,qr out)],1,69,0⟩,
   λq=>q.1<=b.length/\q.2.1.length=a.length+b.length+1/\q.2.2<4294967296/\val q.2.1+4294967296^(i+q.1)*q.2.2=val out0+4294967296^i*(dig a i*val (b.take q.1))/\∀j,i+b.length<=j->dig q.2.1 j=0,λq=>b.length-q.1,(0,out0,0),?_,?_,?_⟩
  ·exact⟨Xh _,h2,oN,by simp[val],h4⟩
  ·exact zf [0]
  rintro⟨k,out,c⟩ ⟨g1,g2,g3,g4,g5⟩
  dsimp only at g1 g2 g3 g4 g5;intro hl4;refine⟨λg6=>?_,λg6=>?_⟩
  ·refine wc<|wb λx(hx:a[i]?=some x)=>?_;have dx:=zV hx;have hxl:=x.isLt;refine wa<|wb λy(hy:b[k]?=some y)=>?_;have dy:=zV hy;have hyl:=y.isLt;refine wa ?_;have hm0:=zem hxl hyl;(iterate 2 refine wa ?_);refine wb<|wb λz hz=>?_;rw[show((i:Int)+k).toNat=i+k by omega]at hz;have dz:=zV hz;have hzl:=z.isLt;(iterate 4 refine wa ?_);refine Ar.wrap<|wb<|wb λz' hz'=>?_
   refine⟨dof (x.val*y.val+z.val+c),Xg (λn=>[u32 n]) (zbc oM),?_⟩;refine wb1<|wa ?_
   refine⟨(k+1,out.set (i+k) (dof (x.val*y.val+z.val+c)),(x.val*y.val+z.val+c)/4294967296),⟨oN,by simp[g2],oN,?_,?_⟩,
    zS [0] ⟨rfl,Xg (λn=>some (u64 n)) oN,rfl,rfl,rfl,rfl,tV⟩ ⟨Xg (λn=>some (qr (out.set n _))) oM,tV⟩,oN⟩
   ·dsimp only;have hs:=v6 out (i+k) (dof (x.val*y.val+z.val+c)) oM;rw[ky,dz]at hs;rw[zR,dy,←KB i k 1,XU];rw[dx]at g4 ⊢;have e:=X8 (x.val*y.val+z.val+c) 4294967296;rw[Ke]at g4 hs ⊢;exact zpD g4 hs e
   intro j hj;dsimp only;rw[jR,Xc oM];exact g5 j hj
  have hk:k=b.length:=by omega
  intro hl5;refine wa<|Ar.wrap<|wb<|wb λz' hz'=>?_;refine⟨dof c,Xg (λn=>[u32 n]) (zbc rfl),?_⟩;refine wa ?_
  refine⟨(i+1,out.set (i+b.length) (dof c)),⟨oN,by simp[g2],?_,?_⟩,
   zu [0] ⟨Xg (λn=>some (qr (out.set n _))) oM,tV⟩,oN⟩
  ·dsimp only;have hs:=v6 out (i+b.length) (dof c) oM;rw[ky,g5 _ (Xk _),Xy g3]at hs;rw[hk,kT (Xk _),h3]at g4;rw[zR];generalize val (out.set (i+b.length) _)=r at*;generalize 4294967296^i=p at*;generalize 4294967296^(i+b.length)=q at*;generalize val (a.take i)=w at*;generalize dig a i=x at*;generalize val out=o at*;clear h4 g5
   grind
  intro j hj;dsimp only;rw[jR,Xc oM];exact g5 j oM
 have hi:i=a.length:=by omega
 refine zb.fresh _ _ (jA _ oM) rfl (qP _) (.inr (qD _))<|⟨some 1,.own _ rfl,?_,λ_ _=>rfl⟩;rw[hi,kT (Xk _)]at h3;rw[←h3];rfl
def zAv(a b:List Dig)(ha:a.length<=400000000)(hb:b.length<=400000000):
  CX 276 [.sl dgE a,.sl dgE b] (.sl dgE (zm (val a*val b))):=(zC9 a b ha hb).plain rfl
def zgl(a:List Dig):kA (val a)<=32*a.length:=by
 by_cases h:val a=0
 ·rw[h,zr2];omega
 have h1:=zbX h;have h2:=q9 a;rw[zbb]at h2;have:=(QD (by decide:1<2)).1 (K4 h1 h2);omega
def zmi(a:List Dig)(ha:a.length<=900000000):CX 340 [.sl dgE a] (i64 (kA (val a))):=by
 refine zc func340<|wg (uF _ oM) λhl=>?_;have hlen:=zJ a;refine⟨λh=>?_,λh=>?_⟩
 ·have:zm (val a)=[]:=XM.1 oM;exact ze (by rw[yF.1 this];rfl)
 have hne:zm (val a)≠[]:=λe=>h (by rw[e];rfl)
 have hn:=(vM (val a)).resolve_left hne;have htop:=zbZ hn;rw[zo]at htop;intro hl2;(iterate 2 refine wa ?_);intro hl3;refine wa<|wb λx hx=>?_;rw[show(((zm (val a)).length:Int)-1).toNat=(zm (val a)).length-1 by omega]at hx;have dx:=zV hx;have hxl:=x.isLt;have hb:=zgl a;refine⟨Nat×Nat,λ⟨n,t⟩=>⟨[(4,i64 n),(5,u32 t)],[],0,28,0⟩,λq=>q.2<4294967296/\q.1+kA q.2=kA (val a),λq=>q.2,(32*((zm (val a)).length-1),x.val),?_,?_,?_⟩
 ·exact⟨hxl,by dsimp only;rw[htop,dx]⟩
 ·exact ji [] ⟨iR oM,rfl,tV⟩ trivial
 rintro⟨n,t⟩ ⟨g1,g2⟩
 dsimp only at g1 g2;refine⟨λg3=>?_,λg3=>?_⟩
 ·have hh:=zr3 (n:=t) oM;exact wa<|Dv.pos ⟨oM,oM,by show _<=(4294967295:Int);omega⟩<|⟨(n+1,t/2),⟨oN,oN⟩,ji [] ⟨rfl,Xg (λn=>some (u32 n)) oM,tV⟩ trivial,oN⟩
 have:t=0:=by omega
 subst this;exact ze (by rw[←g2];rfl)
def zAw{s v w o M:Nat}(h4:o+p*M*c=p*(s*w))(e:4294967296*u+v=x*s+c):
  o+p*M*v+p*(M*4294967296)*u=p*(s*(w+M*x)):=by grind
def zCo(a:List Dig)(n:Nat)(ha:a.length<=800000000)(hn:n<=4096):
  CG0 413 [.sl dgE a,i64 n] [] (.own 0) [(0,qr (zm (val a*2^n)))]:=by
 refine qC tok mix func413 rfl rfl rfl ?_;have hs0:2^(n%32)<=2^31:=XH dC oM;have hs1:0<2^(n%32):=KW dC;generalize hs:2^(n%32)=s at*;refine Dv.pos ⟨oM,oM,by show _<=(9223372036854775807:Int);omega⟩<|⟨Dig,dgE,0,rfl,wb7 ?_⟩
 refine⟨Nat×List Dig×Nat,λ⟨i,out,c⟩=>⟨[(7,i64 i),(6,u64 c),(5,.own 0),(0,.sl dgE a),(1,i64 n)],[(0,qr out)],1,43,0⟩,
  λq=>q.1<=a.length/\q.2.1.length=n/32+q.1/\q.2.2<s/\val q.2.1+4294967296^(n/32)*4294967296^q.1*q.2.2=4294967296^(n/32)*(s*val (a.take q.1)),λq=>a.length-q.1,(0,List.replicate (n/32) 0,0),?_,?_,?_⟩
 ·exact⟨Xh _,sI,hs1,by simp[zaT,val]⟩
 ·exact zu [0] ⟨Xg (λn=>some (qr (List.replicate n 0))) oM,tV⟩
 rintro⟨i,out,c⟩ ⟨h1,h2,h3,h4⟩
 dsimp only at h1 h2 h3 h4;intro hl1;refine⟨λh5=>?_,λh5=>?_⟩
 ·refine wb λx(hx:a[i]?=some x)=>?_;have dx:=zV hx;have hxl:=x.isLt;refine wa<|Dv.pos ⟨oM,oM⟩<|wa<|wb12 ?_;have hm:x.val*s<=4294967295*2^31:=Qs oM hs0
  have hm2:(x.val:Int)*2^((n:Int)%32).toNat=((x.val*s:Nat):Int):=by
   rw[←hs,show((n:Int)%32).toNat=n%32 by omega];simp
  have hm3:x.val*s+c<4294967296*s:=by
   have:x.val*s<=4294967295*s:=Xv _ oM;omega
  refine Ar.fit (by rw[hm2];omega)<|Ar.fit (by rw[hm2];omega)<|Ar.wrap<|⟨Dig,dgE,[dof (x.val*s+c)],Xg (λn=>[u32 n]) (zbc (by rw[hm2];omega)),Ob.mk (zhq _) ?_⟩;refine⟨_,rfl,Ob.mk (zhr (by simp;omega)) ?_⟩;refine wb1<|wa ?_
  refine⟨(i+1,out++[dof (x.val*s+c)],(x.val*s+c)/4294967296),⟨oN,by simp[h2];omega,oN,?_⟩,
   zS [2] ⟨rfl,Xg (λn=>some (u64 n)) (by rw[hm2];dsimp only;omega),rfl,rfl,rfl,tV⟩ ⟨rfl,tV⟩,oN⟩
  dsimp only;rw[vn,h2,ky,zR,dx,XU,Ke];exact zAw h4 (X8 (x.val*s+c) 4294967296)
 have hi:i=a.length:=by omega
 refine Ar.wrap<|⟨Dig,dgE,[dof c],Xg (λn=>[u32 n]) (zbc rfl),Ob.mk (zhq _) ?_⟩;refine⟨_,rfl,Ob.mk (zhr (by simp;omega)) ?_⟩;refine zb.fresh _ _ (jA _ (by simp;omega)) rfl (qP _) (.inr (qD _))<|⟨some 3,.own _ rfl,?_,λ_ _=>rfl⟩
 have e:val (out++[dof c])=val a*2^n:=by
  rw[vn,h2,ky,Xy oM,Ke,h4,kT oM,←hs,zbb];rw[←KC,←Ke,show 32*(n/32)+n%32=n by omega,Ks]
 rw[←e];rfl
def zDa(a:List Dig)(n:Nat)(ha:a.length<=800000000)(hn:n<=4096):
  CG0 355 [.sl dgE a,i64 n] [] (.own 0) [(0,qr (zm (val a*2^n)))]:=by
 refine qC tok mix func355 rfl rfl rfl<|Br.mk (λh=>?_) (λh=>absurd oM h);have e:zbL (n:Int) [4096]=n:=by simp only[zbL];omega
 exact zb.fresh _ _ (show CG0 _ [.sl dgE a,i64 (zbL (n:Int) [4096])] [] (.own 0) [(0,qr (zm (val a*2^n)))] by rw[e];exact zCo a n ha hn) rfl (qP _) (.inr (qD _))<|⟨some 0,.own _ rfl,rfl,λ_ _=>rfl⟩
def zDb(a:List Dig)(n:Nat)(ha:a.length<=800000000)(hn:n<=1000000000000):
  CG0 355 [.sl dgE a,i64 (-(n:Int))] [] (.own 0) [(0,qr (zm (val a/2^n)))]:=by
 refine qC tok mix func355 rfl rfl rfl<|Br.mk (λh=>?_) (λh=>?_)
 ·have hn0:n=0:=by omega
  subst hn0
  refine zb.fresh _ _ (show CG0 _ [.sl dgE a,i64 (zbL (-((0:Nat):Int)) [4096])] [] (.own 0) [(0,qr (zm (val a/2^0)))] by
   have:=zCo a 0 ha oM;rw[show zbL (-((0:Nat):Int)) [4096]=0 by decide,Jj,Nat.div_one];rw[Jj,Jb]at this
   exact this) rfl (qP _) (.inr (qD _)) ?_
  exact⟨some 0,.own _ rfl,rfl,λ_ _=>rfl⟩
 intro hl;refine wa<|Br.mk (λh2=>?_) (λh2=>?_)
 ·refine⟨Dig,dgE,[],rfl,Ob.mk ze5 ?_⟩;refine⟨some 0,.own _ rfl,?_,λ_ _=>rfl⟩
  have e:val a/2^n=0:=by
   refine Kh (Xw (q9 a) ?_);rw[zbb];exact XH dC oM
  rw[e,jZ];rfl
 refine⟨Dig,dgE,[],rfl,Ob.mk ze5 ?_⟩;refine wa<|Dv.pos ⟨oM,oM,by show _<=(9223372036854775807:Int);omega⟩ ?_
 refine⟨Nat×List Dig,λ⟨i,out⟩=>⟨[(6,i64 ((n/32+i:Nat))),(5,.own 0),(0,.sl dgE a),(1,i64 (-(n:Int)))],[(0,qr out)],1,51,0⟩,
  λq=>q.1+n/32<=a.length/\q.2.length=q.1/\∀j,j<q.2.length->dig q.2 j=val a/2^n/4294967296^j%4294967296,λq=>a.length-q.1,(0,[]),?_,?_,?_⟩
 ·exact⟨oN,rfl,λj h=>by simp at h⟩
 ·exact zS [0] ⟨iR oM,rfl,rfl,rfl,tV⟩ ⟨rfl,tV⟩
 rintro⟨i,out⟩ ⟨g1,g2,g3⟩
 dsimp only at g1 g2 g3;intro hl1;refine⟨λh5=>?_,λh5=>?_⟩
 ·have d1:=yS a (n/32+i);have d2:=yS a (n/32+i+1);have hw:(((n/32+i:Nat):Int)+1).toNat=n/32+i+1:=oM;refine wa<|wg (yG a _ oM) ?_;rw[hw];refine wb1<|Ar.fit (by simp only[Int.reducePow];omega)<|wg (yG a _ oM) ?_;simp only[XT];refine Ar.fit (by simp only[Int.reducePow];omega)<|wa<|Dv.pos ⟨oM,oM⟩<|wa<|wb12<|Ar.wrap ?_;have es:((-(-(n:Int)))%32).toNat=n%32:=oM
  refine⟨Dig,dgE,[dof ((dig a (n/32+i+1)*4294967296+dig a (n/32+i))/2^(n%32))],Xg (λn=>[u32 n]) (zbc (by rw[es];simp)),Ob.mk (zhq _) ?_⟩;refine⟨_,rfl,Ob.mk (zhr (by simp;omega)) ?_⟩;refine wa ?_
  refine⟨(i+1,out++[dof ((dig a (n/32+i+1)*4294967296+dig a (n/32+i))/2^(n%32))]),⟨oN,by simp[g2],?_⟩,
   zS [2] ⟨iR oM,rfl,rfl,rfl,tV⟩ ⟨rfl,tV⟩,oN⟩
  intro j hj;dsimp only at hj ⊢;rw[Xq,X0]at hj;rw[zr1]
  split
  ·exact g3 j oM
  have hji:j=i:=by omega
  subst hji;have:=ztt a (n/32) (n%32) j oM;rw[show 32*(n/32)+n%32=n by omega]at this;rw[this,g2,QJ,ze3,ky]
 refine zb.fresh _ _ (jA _ oM) rfl (qP _) (.inr (qD _))<|⟨some 1,.own _ rfl,?_,λ_ _=>rfl⟩
 have e:val out=val a/2^n:=by
  rw[zdB g3,Xy];rw[XS (KW dC)];refine Xw (q9 a) ?_;rw[zbb,zbb,←Ke];exact XH dC oM
 rw[←e];rfl
def ztv(a:List Dig)(n:Nat)(ha:a.length<=800000000)(hn:n<=4096):
  CX 355 [.sl dgE a,i64 n] (.sl dgE (zm (val a*2^n))):=(zDa a n ha hn).plain rfl
def zxf{r b:List Dig}(hb:dig b (b.length-1)≠0)(hlt:val r<4294967296*val b):
  val r/val b<=(dig r b.length*4294967296+dig r (b.length-1))/dig b (b.length-1):=by
 have hl:0<b.length:=by
  rcases Kr b.length with h|h
  ·rw[XM.1 h]at hb;exact absurd rfl hb
  exact h
 have e1:=kR b (b.length-1);have e3:=zG b (b.length-1);rw[show b.length-1+1=b.length by omega,z8 (Xk _),Ko,XP]at e3;have r1:=kR r (b.length-1);have r2:=qR r (b.length-1);have r3:=zG r (b.length-1);have r4:=zG r b.length;rw[show b.length-1+1=b.length by omega]at r3;have hbl:=q9 b;have hpow:4294967296^b.length=4294967296^(b.length-1)*4294967296:=by rw[←XU];congr 1;omega
 have r5:val (r.drop (b.length+1))=0:=by
  rw[zjY];refine Kh (Nat.lt_trans hlt ?_);rw[XU,Ks];exact KK hbl dC
 rw[r5,Ko,XP]at r4;rw[r4]at r3;rw[e3]at e1;rw[r3]at r1;have hp:=zdy (b.length-1);generalize 4294967296^(b.length-1)=p at*;generalize dig b (b.length-1)=t at*;generalize dig r (b.length-1)=x at*;generalize dig r b.length=y at*;rw[Jn oM];have h6:=JE (val r) (val b);generalize val r/val b=q at*;have h7:q*(p*t)<=q*val b:=Kf _ oM
 have h8:p*(q*t)<p*(x+4294967296*y+1):=by
  have:q*(p*t)=p*(q*t):=by rw[←KC,Ks q p,KC]
  rw[KE p _ 1];omega
 have:=JP h8;omega
def zxg{a q:Nat}{e:Int}(he:e=a)(ha:q<=a)(hb:q<4294967296):∃m:Nat,m<4294967296/\q<=m/\zbL e [4294967295]=m:=by
 rcases Int.le_total e 4294967295 with h|h
 ·exact⟨a,oM,ha,by simp only[zbL];rw[Int.min_eq_left h,he]⟩
 exact⟨4294967295,oM,oM,by simp only[zbL];rw[Int.min_eq_right h];simp⟩
def zxh(r b:List Dig)(hr:r.length<=800000000)(hb:b.length<=800000000)(ht:dig b (b.length-1)≠0)(hlt:val r<4294967296*val b):
  CG0 356 [.sl dgE r,.sl dgE b] [] (.tup [u64 ((val r/val b:Nat):Int),.own 0]) [(0,qr (zm (val r%val b)))]:=by
 refine qC tok mix func356 rfl rfl rfl ?_
 have hl:0<b.length:=by
  rcases Kr b.length with h|h
  ·rw[XM.1 h]at ht;exact absurd rfl ht
  exact h
 have hbp:0<val b:=by
  rcases Kr (val b) with h|h
  ·rw[h]at hlt;omega
  exact h
 have hest:=zxf ht hlt;have hq:val r/val b<4294967296:=by rw[XS hbp];exact hlt
 have d1:=yS r b.length;have d2:=yS r (b.length-1);have d3:=yS b (b.length-1);intro hl0;refine wc<|wg (yG r _ oM) ?_;rw[XT];refine wb1<|Ar.fit (by simp only[Int.reducePow];omega)<|wa<|wg (yG r _ oM) ?_;rw[show((b.length:Int)-1).toNat=b.length-1 by omega];refine Ar.fit (by simp only[Int.reducePow];omega)<|wa<|wb λx hx=>?_;rw[show((b.length:Int)-1).toNat=b.length-1 by omega]at hx;have dx:=zV hx;rw[dx]at ht hest d3;refine wa ?_
 refine Dv.pos ⟨by simp only[Int.reducePow];omega,oM,by show _<=(18446744073709551615:Int);simp only[Int.reducePow];omega⟩ ?_;obtain⟨m,hm1,hm2,em⟩:=zxg (e:=((dig r b.length:Nat)*2^32+(dig r (b.length-1):Nat):Int)/((x.val:Nat):Int)) sI hest hq;clear hest
 refine zb.to _ (show CG0 _ [.sl dgE b,u64 (zbL (((dig r b.length:Nat)*2^32+(dig r (b.length-1):Nat):Int)/((x.val:Nat):Int)) [4294967295])] [] (.sl dgE (zm (val b*m))) [] by
  rw[em];exact zu5 b m oM oM) rfl ?_
 refine⟨Nat,λd=>⟨[(8,u64 d),(9,.sl dgE (zm (val b*d))),(0,.sl dgE r),(1,.sl dgE b)],[],0,55,0⟩,λd=>val r/val b<=d/\d<4294967296,λd=>d,m,?_,?_,?_⟩
 ·exact⟨hm2,oM⟩
 ·exact ji [] ⟨Xg (λn=>some (u64 n)) em,rfl,rfl,rfl,tV⟩ trivial
 rintro d ⟨h1,h2⟩
 have hlen:(zm (val b*d)).length<=b.length+1:=jM (by
  rw[XU]
  exact K9 (q9 b) h2)
 refine wg (zxb _ r oM oM) ?_;rw[zo];refine⟨λh3=>?_,λh3=>?_⟩
 ·have h3:=ztu.1 h3
  have hd:1<=d:=by
   rcases Kr d with h|h
   ·subst h;omega
   exact h
  have hq':val r/val b<=d-1:=by
   have:val r/val b<d:=by rw[XS hbp,Ks];exact h3
   omega
  refine wa<|wg (znZ _ b oM oM) ?_;rw[zo];refine⟨d-1,⟨hq',oM⟩,ji [] ⟨Xg (λn=>some (u64 n)) oM,Xg (λn=>some (SV.sl dgE (zm n))) (show val b*d-val b=val b*(d-1) by rw[Nat.mul_sub,Jb]),rfl,rfl,tV⟩ trivial,oN⟩
 have h3:val b*d<=val r:=QY λh=>h3 (ztu.2 h)
 have hd:d=val r/val b:=by
  have:d<=val r/val b:=by rw[Jn hbp,Ks];exact h3
  omega
 refine zb.fresh _ _ (zxc r _ oM oM) rfl (qP _) (.inr (qD _))<|⟨some 0,zjV (.cons (zba (by rw[hd])) (.cons (.own _ rfl) .nil)),?_,λ_ _=>rfl⟩
 have e:val r-val (zm (val b*d))=val r%val b:=by
  rw[zo,hd];have:=X8 (val r) (val b);omega
 rw[←e];rfl
abbrev wk(x:Pt):SV:=.agg (ptE x)
abbrev LQ:=List (List Pt)
abbrev LU:=List Pt
abbrev LB:=List Dig
end Go.Gs
