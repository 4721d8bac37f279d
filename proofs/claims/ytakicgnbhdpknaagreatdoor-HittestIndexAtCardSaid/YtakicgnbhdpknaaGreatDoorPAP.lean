/- Natural numbers, the other text: binary digits, shifts. -/
import Derived.Test.YtakicgnbhdpknaaGreatDoorPAO
import Derived.Lib.Mul64
set_option maxRecDepth 100000
set_option maxHeartbeats 8000000
set_option linter.all false
namespace Go.Gs
open Proofs.Tryz
open Go.Proofs
def zgW(a:LB):kC (val a)<=32*a.length:=by
 by_cases h:val a=0
 .rw[h,ztD];omega
 have c:=zcl h;have b:=je a;rw[zbx]at b;have:=(QJ (by decide:1<2)).1 (Qh c b);omega
def znn(a:LB)(o:a.length<=900000000):CX 340 [.sl dgE a] (i64 (kC (val a))):=by
 refine zc func340<|wg (uI _ oM) λs=>?_;have f:=zK a;refine⟨λh=>?_,λh=>?_⟩
 .have:zn (val a)=[]:=XP.1 oM;exact ze (by rw[yI.1 this];rfl)
 have b:zn (val a)≠[]:=λe=>h (by rw[e];rfl)
 have m:=(zaa (val a)).resolve_left b;have htop:=zcn m;rw[zr]at htop;intro k;(iterate 2 refine wa ?_);intro l;refine wa<|wb λx g=>?_;rw[show(((zn (val a)).length:Int)-1).toNat=(zn (val a)).length-1 by omega]at g;have dx:=zX g;have c:=x.isLt;have p:=zgW a;refine⟨Nat×Nat,λ⟨n,t⟩=>⟨[(4,i64 n),(5,u32 t)],[],0,28,0⟩,λq=>q.2<4294967296/\q.1+kC q.2=kC (val a),λq=>q.2,(32*((zn (val a)).length-1),x.val),?_,?_,?_⟩
 .exact⟨c,by dsimp only;rw[htop,dx]⟩
 .exact jo [] ⟨iR oM,rfl,tV⟩ trivial
 rintro⟨n,t⟩ ⟨i,d⟩
 dsimp only at i d;refine⟨λj=>?_,λj=>?_⟩
 .have r:=ztE (n:=t) oM;exact wa<|Dv.pos ⟨oM,oM,by show _<=(4294967295:Int);omega⟩<|⟨(n+1,t/2),⟨oN,oN⟩,jo [] ⟨rfl,Xg (λn=>some (u32 n)) oM,tV⟩ trivial,oN⟩
 have:t=0:=by omega
 subst this;exact ze (by rw[←d];rfl)
def zC0{p s x c u v w o M:Nat}(a:o+p*M*c=p*(s*w))(e:4294967296*u+v=x*s+c):
  o+p*M*v+p*(M*4294967296)*u=p*(s*(w+M*x)):=by grind
def zEW(a:LB)(n:Nat)(u:a.length<=800000000)(w:n<=4096):
  CG0 413 [.sl dgE a,i64 n] [] (.own 0) [(0,qz (zn (val a*2^n)))]:=by
 refine qA tok mix func413 rfl rfl rfl ?_;have g:2^(n%32)<=2^31:=XJ dC oM;have h:0<2^(n%32):=Qa dC;generalize j:2^(n%32)=s at*;refine Dv.pos ⟨oM,oM,by show _<=(9223372036854775807:Int);omega⟩<|⟨Dig,dgE,0,rfl,wb7 ?_⟩
 refine⟨Nat×LB×Nat,λ⟨i,out,c⟩=>⟨[(7,i64 i),(6,u64 c),(5,.own 0),(0,.sl dgE a),(1,i64 n)],[(0,qz out)],1,43,0⟩,
  λq=>q.1<=a.length/\q.2.1.length=n/32+q.1/\q.2.2<s/\val q.2.1+4294967296^(n/32)*4294967296^q.1*q.2.2=4294967296^(n/32)*(s*val (a.take q.1)),λq=>a.length-q.1,(0,List.replicate (n/32) 0,0),?_,?_,?_⟩
 .exact⟨Xh _,sI,h,by simp[zbc,val]⟩
 .exact zt [0] ⟨Xg (λn=>some (qz (List.replicate n 0))) oM,tV⟩
 rintro⟨i,out,c⟩ ⟨k,d,l,f⟩
 dsimp only at k d l f;intro o;refine⟨λm=>?_,λm=>?_⟩
 .refine wb λx(r:a[i]?=some x)=>?_;have dx:=zX r;have t:=x.isLt;refine wa<|Dv.pos ⟨oM,oM⟩<|wa<|wb12 ?_;have v:x.val*s<=4294967295*2^31:=QB oM g
  have b:(x.val:Int)*2^((n:Int)%32).toNat=((x.val*s:Nat):Int):=by
   rw[←j,show((n:Int)%32).toNat=n%32 by omega];simp
  have p:x.val*s+c<4294967296*s:=by
   have:x.val*s<=4294967295*s:=Xv _ oM;omega
  refine Ar.fit (by rw[b];omega)<|Ar.fit (by rw[b];omega)<|Ar.wrap<|⟨Dig,dgE,[dof (x.val*s+c)],Xg (λn=>[u32 n]) (zby (by rw[b];omega)),Ob.mk (zid _) ?_⟩;refine⟨_,rfl,Ob.mk (zie (by simp;omega)) ?_⟩;refine wb1<|wa ?_
  refine⟨(i+1,out++[dof (x.val*s+c)],(x.val*s+c)/4294967296),⟨oN,by simp[d];omega,oN,?_⟩,
   zP [2] ⟨rfl,Xg (λn=>some (u64 n)) (by rw[b];dsimp only;omega),rfl,rfl,rfl,tV⟩ ⟨rfl,tV⟩,oN⟩
  dsimp only;rw[vB,d,kz,zT,dx,X1,Kj];exact zC0 f (Kf (x.val*s+c) 4294967296)
 have hi:i=a.length:=by omega
 refine Ar.wrap<|⟨Dig,dgE,[dof c],Xg (λn=>[u32 n]) (zby rfl),Ob.mk (zid _) ?_⟩;refine⟨_,rfl,Ob.mk (zie (by simp;omega)) ?_⟩;refine zb.fresh _ _ (jG _ (by simp;omega)) rfl (qT _) (.inr (qG _))<|⟨some 3,.own _ rfl,?_,λ_ _=>rfl⟩
 have e:val (out++[dof c])=val a*2^n:=by
  rw[vB,d,kz,Xy oM,Kj,f,kV oM,←j,zbx];rw[←KI,←Kj,show 32*(n/32)+n%32=n by omega,Ky]
 rw[←e];rfl
def zFO(a:LB)(n:Nat)(b:a.length<=800000000)(c:n<=4096):
  CG0 355 [.sl dgE a,i64 n] [] (.own 0) [(0,qz (zn (val a*2^n)))]:=by
 refine qA tok mix func355 rfl rfl rfl<|Br.mk (λh=>?_) (λh=>absurd oM h);have e:zb9 (n:Int) [4096]=n:=by simp only[zb9];omega
 exact zb.fresh _ _ (show CG0 _ [.sl dgE a,i64 (zb9 (n:Int) [4096])] [] (.own 0) [(0,qz (zn (val a*2^n)))] by rw[e];exact zEW a n b c) rfl (qT _) (.inr (qG _))<|⟨some 0,.own _ rfl,rfl,λ_ _=>rfl⟩
def zFP(a:LB)(n:Nat)(p:a.length<=800000000)(w:n<=1000000000000):
  CG0 355 [.sl dgE a,i64 (-(n:Int))] [] (.own 0) [(0,qz (zn (val a/2^n)))]:=by
 refine qA tok mix func355 rfl rfl rfl<|Br.mk (λh=>?_) (λh=>?_)
 .have f:n=0:=by omega
  subst f
  refine zb.fresh _ _ (show CG0 _ [.sl dgE a,i64 (zb9 (-((0:Nat):Int)) [4096])] [] (.own 0) [(0,qz (zn (val a/2^0)))] by
   have:=zEW a 0 p oM;rw[show zb9 (-((0:Nat):Int)) [4096]=0 by decide,Jv,Nat.div_one];rw[Jv,Jm]at this
   exact this) rfl (qT _) (.inr (qG _)) ?_
  exact⟨some 0,.own _ rfl,rfl,λ_ _=>rfl⟩
 intro v;refine wa<|Br.mk (λm=>?_) (λm=>?_)
 .refine⟨Dig,dgE,[],rfl,Ob.mk zfC ?_⟩;refine⟨some 0,.own _ rfl,?_,λ_ _=>rfl⟩
  have e:val a/2^n=0:=by
   refine Ko (Xx (je a) ?_);rw[zbx];exact XJ dC oM
  rw[e,j9];rfl
 refine⟨Dig,dgE,[],rfl,Ob.mk zfC ?_⟩;refine wa<|Dv.pos ⟨oM,oM,by show _<=(9223372036854775807:Int);omega⟩ ?_
 refine⟨Nat×LB,λ⟨i,out⟩=>⟨[(6,i64 ((n/32+i:Nat))),(5,.own 0),(0,.sl dgE a),(1,i64 (-(n:Int)))],[(0,qz out)],1,51,0⟩,
  λq=>q.1+n/32<=a.length/\q.2.length=q.1/\∀j,j<q.2.length->dig q.2 j=val a/2^n/4294967296^j%4294967296,λq=>a.length-q.1,(0,[]),?_,?_,?_⟩
 .exact⟨oN,rfl,λj h=>by simp at h⟩
 .exact zP [0] ⟨iR oM,rfl,rfl,rfl,tV⟩ ⟨rfl,tV⟩
 rintro⟨i,out⟩ ⟨l,b,c⟩
 dsimp only at l b c;intro r;refine⟨λo=>?_,λo=>?_⟩
 .have t:=yV a (n/32+i);have u:=yV a (n/32+i+1);have s:(((n/32+i:Nat):Int)+1).toNat=n/32+i+1:=oM;refine wa<|wg (yJ a _ oM) ?_;rw[s];refine wb1<|Ar.fit (by simp only[Int.reducePow];omega)<|wg (yJ a _ oM) ?_;simp only[XT];refine Ar.fit (by simp only[Int.reducePow];omega)<|wa<|Dv.pos ⟨oM,oM⟩<|wa<|wb12<|Ar.wrap ?_;have k:((-(-(n:Int)))%32).toNat=n%32:=oM
  refine⟨Dig,dgE,[dof ((dig a (n/32+i+1)*4294967296+dig a (n/32+i))/2^(n%32))],Xg (λn=>[u32 n]) (zby (by rw[k];simp)),Ob.mk (zid _) ?_⟩;refine⟨_,rfl,Ob.mk (zie (by simp;omega)) ?_⟩;refine wa ?_
  refine⟨(i+1,out++[dof ((dig a (n/32+i+1)*4294967296+dig a (n/32+i))/2^(n%32))]),⟨oN,by simp[b],?_⟩,
   zP [2] ⟨iR oM,rfl,rfl,rfl,tV⟩ ⟨rfl,tV⟩,oN⟩
  intro j g;dsimp only at g ⊢;rw[Xq,XZ]at g;rw[ztC]
  split
  .exact c j oM
  have d:j=i:=by omega
  subst d;have:=zu3 a (n/32) (n%32) j oM;rw[show 32*(n/32)+n%32=n by omega]at this;rw[this,b,QQ,zfA,kz]
 refine zb.fresh _ _ (jG _ oM) rfl (qT _) (.inr (qG _))<|⟨some 1,.own _ rfl,?_,λ_ _=>rfl⟩
 have e:val out=val a/2^n:=by
  rw[zd7 c,Xy];rw[X0 (Qa dC)];refine Xx (je a) ?_;rw[zbx,zbx,←Kj];exact XJ dC oM
 rw[←e];rfl
def zu5(a:LB)(n:Nat)(b:a.length<=800000000)(c:n<=4096):
  CX 355 [.sl dgE a,i64 n] (.sl dgE (zn (val a*2^n))):=(zFO a n b c).plain rfl
def zzt{r b:LB}(f:dig b (b.length-1)≠0)(c:val r<4294967296*val b):
  val r/val b<=(dig r b.length*4294967296+dig r (b.length-1))/dig b (b.length-1):=by
 have o:0<b.length:=by
  rcases Kx b.length with h|h
  .rw[XP.1 h]at f;exact absurd rfl f
  exact h
 have i:=kT b (b.length-1);have e:=zG b (b.length-1);rw[show b.length-1+1=b.length by omega,kg (Xj _),Kv,XW]at e;have k:=kT r (b.length-1);have u:=qV r (b.length-1);have d:=zG r (b.length-1);have g:=zG r b.length;rw[show b.length-1+1=b.length by omega]at d;have a:=je b;have hpow:4294967296^b.length=4294967296^(b.length-1)*4294967296:=by rw[←X1];congr 1;omega
 have l:val (r.drop (b.length+1))=0:=by
  rw[zkW];refine Ko (Nat.lt_trans c ?_);rw[X1,Ky];exact KV a dC
 rw[l,Kv,XW]at g;rw[g]at d;rw[e]at i;rw[d]at k;have s:=zd4 (b.length-1);generalize 4294967296^(b.length-1)=p at*;generalize dig b (b.length-1)=t at*;generalize dig r (b.length-1)=x at*;generalize dig r b.length=y at*;rw[JD oM];have m:=JV (val r) (val b);generalize val r/val b=q at*;have n:q*(p*t)<=q*val b:=Kl _ oM
 have j:p*(q*t)<p*(x+4294967296*y+1):=by
  have:q*(p*t)=p*(q*t):=by rw[←KI,Ky q p,KI]
  rw[KL p _ 1];omega
 have:=J9 j;omega
def zzu{a q:Nat}{e:Int}(c:e=a)(b:q<=a)(d:q<4294967296):∃m:Nat,m<4294967296/\q<=m/\zb9 e [4294967295]=m:=by
 rcases Jp e 4294967295 with h|h
 .exact⟨a,oM,b,by simp only[zb9];rw[Int.min_eq_left h,c]⟩
 exact⟨4294967295,oM,oM,by simp only[zb9];rw[Int.min_eq_right h];simp⟩
def zzv(r b:LB)(A:r.length<=800000000)(y:b.length<=800000000)(ht:dig b (b.length-1)≠0)(f:val r<4294967296*val b):
  CG0 356 [.sl dgE r,.sl dgE b] [] (.tup [u64 ((val r/val b:Nat):Int),.own 0]) [(0,qz (zn (val r%val b)))]:=by
 refine qA tok mix func356 rfl rfl rfl ?_
 have z:0<b.length:=by
  rcases Kx b.length with h|h
  .rw[XP.1 h]at ht;exact absurd rfl ht
  exact h
 have c:0<val b:=by
  rcases Kx (val b) with h|h
  .rw[h]at f;omega
  exact h
 have hest:=zzt ht f;have t:val r/val b<4294967296:=by rw[X0 c];exact f
 have u:=yV r b.length;have v:=yV r (b.length-1);have o:=yV b (b.length-1);intro q;refine wc<|wg (yJ r _ oM) ?_;rw[XT];refine wb1<|Ar.fit (by simp only[Int.reducePow];omega)<|wa<|wg (yJ r _ oM) ?_;rw[show((b.length:Int)-1).toNat=b.length-1 by omega];refine Ar.fit (by simp only[Int.reducePow];omega)<|wa<|wb λx l=>?_;rw[show((b.length:Int)-1).toNat=b.length-1 by omega]at l;have dx:=zX l;rw[dx]at ht hest o;refine wa ?_
 refine Dv.pos ⟨by simp only[Int.reducePow];omega,oM,by show _<=(18446744073709551615:Int);simp only[Int.reducePow];omega⟩ ?_;obtain⟨m,s,i,em⟩:=zzu (e:=((dig r b.length:Nat)*2^32+(dig r (b.length-1):Nat):Int)/((x.val:Nat):Int)) sI hest t;clear hest
 refine zb.to _ (show CG0 _ [.sl dgE b,u64 (zb9 (((dig r b.length:Nat)*2^32+(dig r (b.length-1):Nat):Int)/((x.val:Nat):Int)) [4294967295])] [] (.sl dgE (zn (val b*m))) [] by
  rw[em];exact zw2 b m oM oM) rfl ?_
 refine⟨Nat,λd=>⟨[(8,u64 d),(9,.sl dgE (zn (val b*d))),(0,.sl dgE r),(1,.sl dgE b)],[],0,55,0⟩,λd=>val r/val b<=d/\d<4294967296,λd=>d,m,?_,?_,?_⟩
 .exact⟨i,oM⟩
 .exact jo [] ⟨Xg (λn=>some (u64 n)) em,rfl,rfl,rfl,tV⟩ trivial
 rintro d ⟨w,p⟩
 have k:(zn (val b*d)).length<=b.length+1:=jQ (by
  rw[X1]
  exact Ql (je b) p)
 refine wg (zzp _ r oM oM) ?_;rw[zr];refine⟨λa=>?_,λa=>?_⟩
 .have a:=zu4.1 a
  have g:1<=d:=by
   rcases Kx d with h|h
   .subst h;omega
   exact h
  have j:val r/val b<=d-1:=by
   have:val r/val b<d:=by rw[X0 c,Ky];exact a
   omega
  refine wa<|wg (zo5 _ b oM oM) ?_;rw[zr];refine⟨d-1,⟨j,oM⟩,jo [] ⟨Xg (λn=>some (u64 n)) oM,Xg (λn=>some (SV.sl dgE (zn n))) (show val b*d-val b=val b*(d-1) by rw[Nat.mul_sub,Jm]),rfl,rfl,tV⟩ trivial,oN⟩
 have a:val b*d<=val r:=Q6 λh=>a (zu4.2 h)
 have g:d=val r/val b:=by
  have:d<=val r/val b:=by rw[JD c,Ky];exact a
  omega
 refine zb.fresh _ _ (zzq r _ oM oM) rfl (qT _) (.inr (qG _))<|⟨some 0,zkP (.cons (zbv (by rw[g])) (.cons (.own _ rfl) .nil)),?_,λ_ _=>rfl⟩
 have e:val r-val (zn (val b*d))=val r%val b:=by
  rw[zr,g];have:=Kf (val r) (val b);omega
 rw[←e];rfl
def zq3{u q V d l w B qd rr nx:Nat}(h:w=V*qd+rr)(c:nx=u+B*rr)(b:V*d+l=nx)(a:q=d+B*qd):u+B*w=V*q+l:=by
 subst h;subst a;grind
def zcb{xs:LB}{i:Nat}{d:Dig}(h:i<xs.length):val ((xs.set i d).drop i)=d.val+4294967296*val (xs.drop (i+1)):=by
 rw[zG,jU,Xe ⟨rfl,h⟩,List.drop_set_of_lt oM]
def zif(a b:LB)(Z:a.length<=400000000)(hb:b.length<=400000000)(c:val b≠0):
  CX 298 [.sl dgE a,.sl dgE b] (.tup [.sl dgE (zn (val a/val b)),.sl dgE (zn (val a%val b)),i64 0]):=by
 refine zc func298<|wg (uI _ oM) λhl=>?_;have E:=zK b;refine⟨λh=>?_,λh=>?_⟩
 .have:zn (val b)=[]:=XP.1 oM;exact absurd (yI.1 this) c
 have v:zn (val b)≠[]:=λe=>c (yI.1 e)
 have hnorm:=(zaa (val b)).resolve_left v;have htop:=zcn hnorm;rw[zr]at htop;have hbits:=zgW (zn (val b));rw[zr]at hbits;have hpos:=zcm.2 c;have w:0<kC (dig (zn (val b)) ((zn (val b)).length-1)):=zcm.2 hnorm;intro L;refine wa<|wg (znn _ oM) ?_;rw[zr];refine wa ?_;obtain⟨s,R⟩:∃s:Nat,(32*((zn (val b)).length:Int)-(kC (val b):Int))=s:=⟨32*(zn (val b)).length-kC (val b),oM⟩;rw[R];have hs32:s<32:=oM;refine wg (zu5 a s oM oM)<|wg (zu5 (zn (val b)) s oM oM) ?_;rw[zr]
 have hpow:2^s<=4294967296^1:=by rw[zbx];exact XJ dC oM
 have hpow0:0<2^s:=Qa dC
 have hUl:(zn (val a*2^s)).length<=a.length+1:=jQ (by
  rw[Kj]
  exact Xx (KV (je a) hpow0) (Kl _ hpow))
 have hVl:(zn (val b*2^s)).length<=b.length+1:=jQ (by
  rw[Kj]
  exact Xx (KV (je b) hpow0) (Kl _ hpow))
 have hV0:val b*2^s≠0:=Ys c oM;have d:val a/val b=val a*2^s/(val b*2^s):=(YD _ _ hpow0).symm;have f:val a%val b=val a*2^s%(val b*2^s)/2^s:=by rw[YE,Nat.mul_div_cancel _ hpow0]
 rw[d,f];clear d f hpow w hnorm htop hpos hbits;generalize val a*2^s=U at*;generalize val b*2^s=V at*;have A:=(zaa V).resolve_left λe=>hV0 (yI.1 e)
 intro M;refine⟨Dig,dgE,0,rfl,wb7 ?_⟩;refine⟨Dig,dgE,[],rfl,Ob.mk zfC ?_⟩;intro N;refine wa ?_
 refine⟨Nat×LB×LB,λ⟨j,q,r⟩=>⟨[(13,i64 ((j:Int)-1)),(12,.own 1),(11,.own 0),(9,.sl dgE (zn U)),(10,.sl dgE (zn V)),(8,i64 s)],[(1,qz r),(0,qz q)],2,83,0⟩,
  λx=>x.1<=(zn U).length/\x.2.1.length=(zn U).length/\x.2.2.length<=(zn V).length/\val ((zn U).drop x.1)=V*val (x.2.1.drop x.1)+val x.2.2/\val x.2.2<V,λx=>x.1,
  ((zn U).length,List.replicate (zn U).length 0,[]),?_,?_,?_⟩
 .refine⟨Xj _,sI,sI,?_,by dsimp only;rw[zo3];omega⟩;dsimp only;rw[kg (Xj _),kg sI,zo3,Kv]
 .exact zt [0,1] ⟨rfl,Xg (λn=>some (qz (List.replicate n 0))) oM,tV⟩
 rintro⟨j,q,r⟩ ⟨I,B,J,g,p⟩
 dsimp only at I B J g p;refine⟨λW=>?_,λW=>?_⟩
 .refine wb λx F=>?_;rw[show((j:Int)-1).toNat=j-1 by omega]at F;have dx:=zX F;have S:=x.isLt;refine⟨Dig,dgE,[x],rfl,Ob.mk (zid x) ?_⟩
  refine⟨Nat,λk=>⟨[(15,i64 k),(14,.own 2),(13,i64 ((j:Int)-1)),(12,.own 1),(11,.own 0),(9,.sl dgE (zn U)),(10,.sl dgE (zn V)),(8,i64 s)],[(2,qz (x::r.take k)),(1,qz r),(0,qz q)],3,83,0⟩,
   λk=>k<=r.length,λk=>r.length-k,0,?_,?_,?_⟩
  .exact Xh _
  .exact zf [0,1,2]
  intro k D;have D:k<=r.length:=D;intro O;refine⟨λX=>?_,λX=>?_⟩
  .refine wb<|wb λy(T:r[k]?=some y)=>?_;refine⟨Dig,dgE,[y],rfl,Ob.mk (zid y) ?_⟩;refine⟨_,rfl,Ob.mk (zie (by simp;omega)) ?_⟩;refine wa ?_
   refine⟨k+1,by show k+1<=r.length;omega,qI [(0,some 0),(1,some 1),(2,some 4)] rfl rfl rfl ⟨rfl,rfl,rfl,rfl,rfl,rfl,rfl,rfl,tV⟩
    ⟨Xg (λl=>some (qz l)) (by rw[Xm,T];rfl),rfl,rfl,tV⟩,oN⟩
  have u:k=r.length:=by omega
  subst u;have o:val (x::r)<4294967296*V:=by rw[vA];omega
  have Q:(zn (val (x::r))).length<=r.length+1:=zK (x::r);refine zb.fresh _ _ (jG _ (by simp;omega)) rfl (qT _) (.inr (qG _)) ?_;rw[X9];refine zb.fresh _ _ (zzv _ (zn V) oM oM A (by rw[zr,zr];exact o)) rfl (qT _) (.inr (qG _)) ?_;rw[zr,zr];have i:val (x::r)/V<4294967296:=by rw[X0 oM];exact o
  have m:val (x::r)%V<V:=Kn _ oM;have t:=Kf (val (x::r)) V;generalize val (x::r)/V=dq at*;generalize P:val (x::r)%V=Y at*;refine wa<|wb<|wb λz hz=>?_;refine⟨dof dq,Xg (λn=>[u32 n]) (by rw[kz,Xy i]),?_⟩;refine wa ?_
  refine⟨(j-1,q.set (j-1) (dof dq),zn Y),⟨oN,by simp[B],qt (YR m),?_,by dsimp only;rw[zr];exact m⟩,
   zP [0,4] ⟨iR oM,rfl,rfl,rfl,rfl,rfl,tV⟩ ⟨rfl,Xg (λn=>some (qz (q.set n _))) oM,tV⟩,oN⟩
  dsimp only;rw[zr,zG (zn U),dx,show j-1+1=j by omega];refine zq3 g (vA x r) t ?_;rw[zcb oM,kz,Xy i,show j-1+1=j by omega]
 have K:j=0:=by omega
 subst K;rw[Qc,Qc,zr]at g;refine zb.fresh _ _ (jG _ oM) rfl (qT _) (.inr (qG _))<|wa<|zb.fresh _ _ (zFP r s oM oM) rfl (qT _) (.inr (qG _)) ?_
 have G:val q=U/V:=by
  rw[g,QG oM,Ko p,XW]
 have H:val r=U%V:=by
  rw[g,QH,Xy p]
 exact zaP (.cons (z6 (by rw[G])) (.cons (z6 (by rw[H])) (.C .nil)))
structure BI where
 neg:Bool
 mag:LB
 deriving DecidableEq
def BI.v(a:BI):Int:=if a.neg then-(val a.mag:Int) else val a.mag
def ofZ(z:Int):BI:=⟨decide (z<0),zn z.natAbs⟩
def z5(z:Int):(ofZ z).v=z:=by
 unfold BI.v ofZ;simp only[zr,decide_eq_true_eq]
 split <;> omega
def BI.v_abs(a:BI):a.v.natAbs=val a.mag:=by unfold BI.v;split <;> omega
def BI.v_eq(a:BI):(a.neg=true/\a.v= -(val a.mag:Int))∨(a.neg=false/\a.v=(val a.mag:Int)):=by
 unfold BI.v;cases a.neg <;> simp
def za5(z:Int):(ofZ z).neg=true↔z<0:=by simp[ofZ]
def jV(z:Int):(ofZ z).mag=zn z.natAbs:=rfl
def jr(z:Int):Nat:=(zn z.natAbs).length
def zo6{z:Int}{k:Nat}(h:z.natAbs<4294967296^k):jr z<=k:=jQ h
def zgX{z:Int}{k:Nat}(h:jr z<=k):z.natAbs<4294967296^k:=zc3 h
def zax(z:Int):jr (-z)=jr z:=by simp[jr]
def k9(x y:Int):jr (x*y)<=jr x+jr y:=by
 refine zo6 ?_;rw[QK,Kj];exact Ql (zgX (Xj _)) (zgX (Xj _))
def zgY(x y:Int):jr (x+y)<=max (jr x) (jr y)+1:=by
 refine zo6 ?_;have a:=zgX (Ji (jr x) (jr y));have b:=zgX (Q5 (jr x) (jr y));rw[X1];have:=Int.natAbs_add_le x y;omega
def zkY(x y:Int):jr (x-y)<=max (jr x) (jr y)+1:=by
 have:=zgY x (-y)
 rwa [zax,←Jj]at this
def zaQ(a:BI):jr a.v<=a.mag.length:=by
 unfold jr;rw[BI.v_abs];exact zK _
def zco{x y:Int}(h:x.natAbs<=y.natAbs):jr x<=jr y:=qt h
def jq{n:Int}(h: -9223372036854775808<=n/\n<=9223372036854775807):jr n<=2:=zo6 (by
 rw[show 4294967296^2=18446744073709551616 by decide];omega)
def z8(a b:Int):Int:=
 if a<0↔b<0 then((2*a.natAbs+b.natAbs)/(2*b.natAbs):Nat) else-((2*a.natAbs+b.natAbs)/(2*b.natAbs):Nat)
def zd8(a b:Int):(z8 a b).natAbs=(2*a.natAbs+b.natAbs)/(2*b.natAbs):=by
 unfold z8;generalize (2*a.natAbs+b.natAbs)/(2*b.natAbs)=q
 split <;> omega
def biE(a:BI):LR:=[pr (a.neg=true),.sl dgE a.mag]
def zaR(p:Prop)[i:Decidable p](m:LB)(a:m.length<=1000000000):
  CX 235 [.pr p i,.sl dgE m] (.agg (biE (ofZ (if p then-(val m:Int) else val m)))):=by
 refine zc func235<|wg (uI m a)<|⟨λh=>?_,λh=>?_⟩
 .intro b;refine jp (.cons (zB ?_) (.cons (z6 ?_) .nil))
  .rw[Xe h,za5];have:=jF (n:=val m);omega
  rw[Xe h,jV];congr 1;omega
 refine jp (.cons (zd ?_) (.cons (z6 ?_) .nil))
 .rw[Xc h,za5];omega
 rw[Xc h,jV];congr 1
def zu6(a:BI)(b:a.mag.length<=1000000000):
  CX 235 [pr (a.neg=true),.sl dgE a.mag] (.agg (biE (ofZ a.v))):=zaR (a.neg=true) a.mag b
def dTwo(c d:Dig):[c,d].length=2/\2<=281474976710656/\2*1<=16777216/\0<1/\∀x∈[c,d],(dgE x).length=1/\j8 (dgE x)=true/\yd.flats (dgE x)=true:=
 ⟨rfl,dC,dC,dC,λ_ _=>⟨rfl,rfl,rfl⟩⟩
def zo7(m:Nat)(h:m<18446744073709551616):val [dof m,dof (m/4294967296)]=m:=by
 simp only[val,kz];omega
def jR(n:Int)(a:R64 n):CX 160 [i64 n] (.agg (biE (ofZ n))):=by
 refine zc func160<|Ar.wrap<|Br.mk (λh=>?_) (λh=>?_)
 .refine Ar.wrap ?_;have e:IntKind.u64.wrap (0-IntKind.u64.wrap n)=((n.natAbs:Nat):Int):=by rw[yn,yn];omega
  refine Ar.wrap<|wb1<|Ar.wrap<|⟨Dig,dgE,[dof n.natAbs,dof (n.natAbs/4294967296)],congr (Xg (λn m=>[u32 n,u32 m]) (zby e)) (zby (by rw[e];simp only[Int.reducePow];omega)),Ob.mk (dTwo _ _) ?_⟩;refine zb.see 1 _ (zaR (n<0) [dof n.natAbs,dof (n.natAbs/4294967296)] sI) rfl rfl rfl ?_;rw[Xe h,zo7 _ oM,show(-(n.natAbs:Int))=n by omega];exact .refl
 have e:IntKind.u64.wrap n=((n.natAbs:Nat):Int):=by rw[yn];omega
 refine Ar.wrap<|wb1<|Ar.wrap<|⟨Dig,dgE,[dof n.natAbs,dof (n.natAbs/4294967296)],congr (Xg (λn m=>[u32 n,u32 m]) (zby e)) (zby (by rw[e];simp only[Int.reducePow];omega)),Ob.mk (dTwo _ _) ?_⟩;refine zb.see 1 _ (zaR (n<0) [dof n.natAbs,dof (n.natAbs/4294967296)] sI) rfl rfl rfl ?_;rw[Xc h,zo7 _ oM,show(n.natAbs:Int)=n by omega];exact .refl
def zc4(a:BI)(c:a.mag.length<=1000000000):CX 161 [.agg (biE a)] (i64 a.v.sign):=by
 refine zc func161<|wg (zu6 a c) λf=>?_;have e:=jF (n:=a.v.natAbs);refine⟨λh=>?_,λh=>?_⟩
 .have:a.v=0:=by rw[jV]at h;omega
  exact ze (by rw[this];rfl)
 have d:a.v≠0:=by rw[jV]at h;omega
 refine⟨λb=>?_,λb=>?_⟩
 .rw[za5]at b;exact ze (Km b).symm
 rw[za5]at b;exact ze (Ku oM).symm
def zEX(a b:BI):(if¬(a.neg=true↔b.neg=true) then-((val a.mag*val b.mag:Nat):Int) else((val a.mag*val b.mag:Nat):Int))=a.v*b.v:=by
 obtain⟨c,d⟩|⟨c,d⟩:=a.v_eq <;> obtain⟨e,f⟩|⟨e,f⟩:=b.v_eq <;> simp[c,d,e,f,Int.neg_mul,QN]
def zc5(a b:BI)(c:a.mag.length<=400000000)(d:b.mag.length<=400000000):CX 200 [.agg (biE a),.agg (biE b)] (.agg (biE (ofZ (a.v*b.v)))):=by
 refine zc func200<|wc<|wg (zCZ a.mag b.mag c d) ?_
 have e:(zn (val a.mag*val b.mag)).length<=1000000000:=by
  refine XB (jQ (k:=a.mag.length+b.mag.length) ?_) oM;rw[Kj];exact Ql (je _) (je _)
 refine wg (zaR (¬(a.neg=true↔b.neg=true)) _ e) ?_;rw[zr,zEX];exact .refl
def zFQ(a b:BI)(k:b.v≠0):(if¬(a.neg=true↔b.neg=true) then-(((val a.mag+val a.mag+val b.mag)/(val b.mag+val b.mag):Nat):Int) else(((val a.mag+val a.mag+val b.mag)/(val b.mag+val b.mag):Nat):Int))=z8 a.v b.v:=by
 unfold z8;rw[BI.v_abs,BI.v_abs,Nat.two_mul,Nat.two_mul]
 by_cases g:val a.mag=0
 .have e:(val a.mag+val a.mag+val b.mag)/(val b.mag+val b.mag)=0:=by
   rw[g];refine Ko ?_
   obtain⟨c,d⟩|⟨c,d⟩:=b.v_eq <;> omega
  rw[e];simp
 generalize ((val a.mag+val a.mag+val b.mag)/(val b.mag+val b.mag))=q
 have e:(a.neg=true↔b.neg=true)↔(a.v<0↔b.v<0):=by
  obtain⟨c,d⟩|⟨c,d⟩:=a.v_eq <;> obtain⟨f,i⟩|⟨f,i⟩:=b.v_eq <;> simp only[c,f] <;> simp <;> omega
 by_cases h:(a.v<0↔b.v<0)
 .rw[Xc (not_not_intro (e.2 h)),Xe h]
 rw[Xe (λj=>h (e.1 j)),Xc h]
def zcp{a b:LB}{k:Nat}(c:a.length<=k)(d:b.length<=k):(zn (val a+val b)).length<=k+1:=by
 refine jQ ?_;have e:=Xx (je a) (XJ (show 0<4294967296 by decide) c);have f:=Xx (je b) (XJ (show 0<4294967296 by decide) d);rw[X1];omega
def zq4(a b:BI)(e:a.mag.length<=300000000)(f:b.mag.length<=300000000)(d:b.v≠0):
  CX 454 [.agg (biE a),.agg (biE b)] (.tup [.agg (biE (ofZ (z8 a.v b.v))),i64 0]):=by
 refine zc func454 ?_;refine wg (zc4 b oM) ?_;refine⟨λh=>absurd (K5.1 h) d,λ_=>?_⟩;refine wc ?_;have j:=zcp e e;have m:=zcp f f;have k:=zcp j (show b.mag.length<=_ by omega);rw[zr]at k;have c:val b.mag+val b.mag≠0:=by obtain⟨g,i⟩|⟨g,i⟩:=b.v_eq <;> omega
 refine wg (zjR a.mag a.mag oM oM)<|wg (zjR _ b.mag oM oM)<|wg (zjR b.mag b.mag oM oM) ?_;rw[zr];refine wg (zif _ _ oM oM (by rw[zr];exact c)) ?_;rw[zr,zr];have l:(zn ((val a.mag+val a.mag+val b.mag)/(val b.mag+val b.mag))).length<=1000000000:=XB (qt (Qf _ _)) oM;refine wg (zaR (¬(a.neg=true↔b.neg=true)) _ l) ?_;rw[zr,zFQ a b d];exact .refl
def zkZ{x y:Nat}(a:x<18446744073709551616)(b:y<18446744073709551616):vr .or .u64 x y=((x|||y:Nat):Int):=by
 show IntKind.u64.wrap ((BitVec.ofInt 64 x|||BitVec.ofInt 64 y).toNat:Nat)=_;have h:x|||y<2^64:=Nat.or_lt_two_pow a b
 have e:(BitVec.ofInt 64 x|||BitVec.ofInt 64 y).toNat=x|||y:=by
  rw[BitVec.toNat_or,Qg,Qg];congr 1
  .omega
  omega
 rw[e,yn];omega
def y7(z:Int):Int:=if-9223372036854775808<=z/\z<=9223372036854775807 then z else 0
def zk0(a:BI)(s:a.mag.length<=1000000000):
  CX 285 [.agg (biE a)] (.tup [i64 (y7 a.v),pr (-9223372036854775808<=a.v/\a.v<=9223372036854775807)]):=by
 refine zc func285<|wg (zu6 a s) ?_;generalize a.v=z
 have bad:¬(-9223372036854775808<=z/\z<=9223372036854775807)->LE (.tup [i64 0,bl false]) (.tup [i64 (y7 z),pr (-9223372036854775808<=z/\z<=9223372036854775807)]):=λh=>
  zO (ze (by rw[y7,Xc h])) (zd h)
 refine⟨Nat,λi=>⟨[(6,i64 i),(5,u64 (val ((zn z.natAbs).take i))),(4,.loc 1 0)],[(1,.box 53 (biE (ofZ z))),(0,.box 53 (biE a))],2,51,0⟩,
  λi=>i<=2/\i<=(zn z.natAbs).length,λi=>2-i,0,?_,?_,?_⟩
 .exact⟨oM,Xh _⟩
 .exact zf [0,1]
 rintro i ⟨r,E⟩
 intro G;refine⟨λj=>?_,λj=>?_⟩
 .have j:i<(zn z.natAbs).length:=by rw[jV]at j;omega
  refine⟨λo=>?_,λo=>?_⟩
  .refine bad λF=>?_
   have:=jQ (n:=z.natAbs) (k:=2) (by rw[show 4294967296^2=18446744073709551616 by decide];omega);omega
  refine Ob.mk (by rw[jV];omega) λx(t:(zn z.natAbs)[i]?=some x)=>?_;have dx:=zX t;have u:=x.isLt;have ht:=qV (zn z.natAbs) i;have c:=zT (zn z.natAbs) i;rw[dx]at c
  have key:∀n:Int,n=32*i->0<=n/\n<64/\0<=(x.val:Int)*2^n.toNat/\(x.val:Int)*2^n.toNat<=18446744073709551615/\
    vr .or .u64 (val ((zn z.natAbs).take i)) ((x.val:Int)*2^n.toNat)=val ((zn z.natAbs).take (i+1)):=λn d=>by
   have:i=0∨i=1:=oM
   rcases this with rfl|rfl
   .have:n=0:=by omega
    subst this;rw[c];have e:=zkZ (x:=0) (y:=x.val) oM oM;have p:(x.val:Int)*2^(0:Int).toNat=(x.val:Int):=by simp
    rw[p,zmP];refine⟨oM,oM,oM,oM,?_⟩;rw[e];simp
   have:n=32:=by omega
   subst this;rw[c];have e:=zkZ (x:=val ((zn z.natAbs).take 1)) (y:=4294967296*x.val) oM oM;have m:=Qi (i:=32) (b:=val ((zn z.natAbs).take 1)) (by rw[show 2^32=4294967296 by decide];omega) x.val;rw[show 2^32=4294967296 by decide]at m
   have q:(x.val:Int)*2^(32:Int).toNat=((4294967296*x.val:Nat):Int):=by
    rw[show(32:Int).toNat=32 by decide];simp only[Int.reducePow];omega
   rw[q];refine⟨oM,oM,oM,oM,?_⟩;rw[e,Nat.or_comm,←m];omega
  obtain⟨w,A,B,C,D⟩:=key (32*i) rfl;(iterate 3 refine wa ?_);refine Ob.mk ⟨w,A⟩<|Ar.fit ⟨B,C⟩<|⟨_,D.symm,?_⟩;exact wa<|⟨i+1,⟨oM,oM⟩,zf [0,1],oN⟩
 have o:(zn z.natAbs).length=i:=by rw[jV]at j;omega
 have e:val ((zn z.natAbs).take i)=z.natAbs:=by rw[kV oM,zr]
 have H:z.natAbs<18446744073709551616:=by
  have:=qV (zn z.natAbs) i;rw[e]at this;refine Xx this (XB (XJ dC r) dC)
 have good:∀n:Int,n=z-> -9223372036854775808<=z/\z<=9223372036854775807->LE (.tup [i64 n,bl true]) (.tup [i64 (y7 z),pr (-9223372036854775808<=z/\z<=9223372036854775807)]):=λn d h=>
  zO (ze (by rw[y7,Xe h,d])) (zH h)
 have d:=za5 z;refine⟨λf=>?_,λf=>?_⟩
 .rw[d]at f;refine⟨λl=>?_,λl=>?_⟩
  .refine Ar.wrap<|Ar.wrap<|good _ ?_ oM;rw[e,yn];show IntKind.i64.wrap _=_;simp only[IntKind.wrap,IntKind.bits,IntKind.signed];simp;omega
  refine⟨λg=>absurd (d.2 f) g,λ_=>bad oM⟩
 refine⟨λg=>?_,λg=>absurd (λh=>f h) g⟩;rw[d]at f;refine⟨λl=>?_,λl=>bad oM⟩;exact wa<|good _ oM oM
def zig(a b c:Int)(d:R64 a)(e:R64 b)(f:R64 c):CG0 407 [i64 a,i64 b,i64 c] []
  (.tup [i64 (y7 (z8 (a*b) c)),pr (c≠0/\ -9223372036854775808<=z8 (a*b) c/\z8 (a*b) c<=9223372036854775807)]) []:=by
 refine zc func407<|Br.mk (λh=>?_) (λh=>?_)
 .refine zO (ze ?_) (zd λl=>l.1 h);subst h;simp[z8,y7]
 have n:=jq d;have o:=jq e;have p:=jq f;have q:=k9 a b;unfold jr at n o p q;refine wg (jR a d)<|wg (jR b e)<|wg (zc5 (ofZ a) (ofZ b) (by rw[jV];omega) (by rw[jV];omega)) ?_;rw[z5,z5];refine wg (jR c f)<|wg (zq4 (ofZ (a*b)) (ofZ c) (by rw[jV];omega) (by rw[jV];omega) (by rw[z5];exact h)) ?_;rw[z5,z5]
 have r:(zn (z8 (a*b) c).natAbs).length<=6:=by
  refine jQ (Qh (m:=2*(a*b).natAbs+c.natAbs) ?_ ?_)
  .rw[zd8];exact Qf _ _
  have p1:=zgX (z:=a*b) (k:=4) (by unfold jr;omega);have i:4294967296^4=340282366920938463463374607431768211456:=dC;have j:4294967296^6=6277101735386680763835789423207666416102355444464034512896:=dC;rw[i]at p1;rw[j];omega
 refine wg (zk0 (ofZ (z8 (a*b) c)) (by rw[jV];omega)) ?_;rw[z5];exact zO .refl (zB ⟨λg=>⟨h,g⟩,λg=>g.2⟩)
def ug(a b:Int)(c:R64 a)(d:R64 b):CX 349 [i64 a,i64 b] (i64 (y7 (z8 a b))):=by
 refine zc func349<|wg (zig a 1 b c dC d) ?_;rw[Int.mul_one];exact .refl
def zk1(n:Int)(a:R64 n):CX 486 [i64 n] (u64 (n.natAbs:Nat)):=by
 refine zc func486<|Br.mk (λh=>?_) (λh=>?_)
 .exact Ar.wrap<|Ar.wrap<|ze (by rw[yn,yn];omega)
 exact wa<|ze oM
def zu7(x:Nat):vr .and .u64 x 4294967295=((x%4294967296:Nat):Int):=by
 have e:(BitVec.ofInt 64 x&&&BitVec.ofInt 64 4294967295).toNat=x%4294967296:=by
  rw[BitVec.toNat_and];have a:(BitVec.ofInt 64 4294967295).toNat=2^32-1:=dC;rw[a,JI,Qg];rw[show(2:Nat)^32=4294967296 by decide];omega
 show IntKind.u64.wrap ((BitVec.ofInt 64 x&&&BitVec.ofInt 64 4294967295).toNat:Nat)=_;rw[e,yn];omega
def zu8(x y:Nat)(g:x<18446744073709551616)(h:y<18446744073709551616):
  CX 479 [u64 x,u64 y] (.tup [u64 (x*y/18446744073709551616:Nat),u64 (x*y%18446744073709551616:Nat)]):=by
 refine zc func479 ?_;obtain⟨w,z,A,r⟩:=Go.Lib.mul64_hi x y g h;have v:(x/4294967296)*(y%4294967296)<=(x/4294967296)*(y%4294967296)+(x%4294967296)*(y%4294967296)/4294967296:=Q4 _ _
 have B:x*y/18446744073709551616<18446744073709551616:=by
  rw[X0 dC];exact Ql g h
 refine⟨_,(zu7 x).symm,?_⟩;refine wb1<|⟨_,(zu7 y).symm,?_⟩;refine wb1 ?_;have ex:(x:Int)/2^32=((x/4294967296:Nat):Int):=by simp
 have ey:(y:Int)/2^32=((y/4294967296:Nat):Int):=by simp
 have u:=Go.Lib.half_mul_le (a:=x%4294967296) (b:=y/4294967296) oM oM;have s:=Go.Lib.half_mul_le (a:=x/4294967296) (b:=y/4294967296) oM oM;rw[ex,ey];generalize o:x/4294967296=f at*;generalize n:x%4294967296=d at*;generalize q:y/4294967296=i at*;generalize p:y%4294967296=c at*;(iterate 2 refine wa ?_);refine wb1 ?_;have j:((d:Int)*(c:Int))/2^32=((d*c/4294967296:Nat):Int):=by simp
 rw[j];generalize d*c/4294967296=e at*;refine wa ?_;have k:(f:Int)*(c:Int)+(e:Int)=((f*c+e:Nat):Int):=by simp
 rw[k];generalize f*c+e=t at*;refine⟨_,(zu7 t).symm,?_⟩;refine wb1 ?_;have l:(t:Int)/2^32=((t/4294967296:Nat):Int):=by simp
 rw[l];(iterate 4 refine wa ?_);refine wb1 ?_;have m:(((t%4294967296:Nat):Int)+(d:Int)*(i:Int))/2^32=(((t%4294967296+d*i)/4294967296:Nat):Int):=by simp
 rw[m];refine wa<|Ar.wrap<|zO (ze ?_) (ze ?_)
 .rw[←r];simp
 rw[yn];simp
def zC1(lo y:Nat)(a:lo<18446744073709551616)(c:y<18446744073709551616)(b:y≠0):
  CX 495 [u64 (0:Nat),u64 lo,u64 y] (.tup [u64 (lo/y:Nat),u64 (lo%y:Nat)]):=by
 refine zc func495<|Br.mk (λh=>absurd h oM) (λ_=>?_);refine⟨λh=>absurd h oM,λ_=>?_⟩;refine⟨λ_=>?_,λh=>absurd rfl h⟩;exact wc<|Dv.pos ⟨oM,oM,by show _<=(18446744073709551615:Int);omega⟩<|Dv.pos ⟨oM,oM⟩<|zO (ze sI) (ze sI)
def rup(lo by_:Nat):Nat:=(2*lo+by_)/(2*by_)
def zzw{lo y:Nat}(a:y≠0):rup lo y=if y<=2*(lo%y) then lo/y+1 else lo/y:=by
 unfold rup;have e:=Kf lo y;have b:=Kn lo (Kg a);generalize lo/y=q at*;generalize lo%y=r at*;subst e;have p:2*(y*q+r)+y=2*y*q+(2*r+y):=by rw[KL,KI];omega
 rw[p,QG oM]
 split
 .have:(2*r+y)/(2*y)=1:=by
   rw[Nat.div_eq_iff oM];omega
  omega
 have:(2*r+y)/(2*y)=0:=Ko oM;omega
def zFR(lo y:Nat)(c:lo<=9223372036854775808)(d:y<18446744073709551616)(a:y≠0):
  CX 488 [.agg [u64 (0:Nat),u64 lo,u64 y]] (.tup [u64 (rup lo y:Nat),bl true]):=by
 refine zc func488<|Br.mk (λh=>absurd h oM) (λ_=>?_);refine wg (zC1 lo y oM d a) ?_;have e:=Qf lo y;have f:=Kn lo (Kg a);have b:=zzw (lo:=lo) a;generalize rup lo y=u at*;generalize lo/y=q at*;generalize lo%y=r at*;refine wa<|Br.mk (λh=>?_) (λh=>?_)
 .rw[Xe oM]at b;exact wa<|zO (ze oM) (zzb oM)
 rw[Xc oM]at b;exact zO (ze oM) .refl
def zzx(p:Prop)[i:Decidable p](lo y:Nat)(d:lo<=9223372036854775808)(o:y<18446744073709551616)(g:y≠0):
  CG0 487 [.pr p i,.val (.func (.func 488) #[.agg #[.int .u64 (0:Nat),.int .u64 (lo:Nat),.int .u64 (y:Nat)]] #[])] []
   (.tup [i64 (y7 (if p then-(rup lo y:Int) else rup lo y)),pr (-9223372036854775808<=(if p then-(rup lo y:Int) else rup lo y)/\(if p then-(rup lo y:Int) else rup lo y)<=9223372036854775807)]) []:=by
 refine zc func487<|wg (zFR lo y d o g) ?_
 have r:rup lo y<18446744073709551616:=by
  rw[zzw g];have:=Qf lo y
  split <;> omega
 generalize rup lo y=u at*
 have bad:∀z:Int,¬(-9223372036854775808<=z/\z<=9223372036854775807)->LE (.tup [i64 0,bl false]) (.tup [i64 (y7 z),pr (-9223372036854775808<=z/\z<=9223372036854775807)]):=λz h=>
  zO (ze (by rw[y7,Xc h])) (zd h)
 have good:∀n z:Int,n=z-> -9223372036854775808<=z/\z<=9223372036854775807->LE (.tup [i64 n,bl true]) (.tup [i64 (y7 z),pr (-9223372036854775808<=z/\z<=9223372036854775807)]):=λn z m h=>
  zO (ze (by rw[y7,Xe h,m])) (zH h)
 refine⟨λh=>bad _ (by split <;> omega),λh=>?_⟩
 have tail:(u:Int)<=9223372036854775808->((u:Int)=9223372036854775808->p)->IntKind.i64.wrap (IntKind.u64.wrap (-(u:Int)))= -(u:Int)/\(¬p->(u:Int)<=9223372036854775807):=λq l=>by
  refine⟨?_,λb=>?_⟩
  .rw[yn];simp only[IntKind.wrap,IntKind.bits,IntKind.signed];simp;omega
  by_cases e:(u:Int)=9223372036854775808
  .exact absurd (l e) b
  omega
 refine⟨λj=>?_,λj=>?_⟩
 .refine⟨λc=>bad _ (by rw[Xc c];omega),λc=>?_⟩;have b:=Xa.1 c;obtain⟨f,k⟩:=tail oM (λ_=>b);refine⟨λ_=>?_,λa=>absurd b a⟩;exact Ar.wrap<|Ar.wrap<|good _ _ (by rw[Xe b];exact f) (by rw[Xe b];omega)
 obtain⟨f,k⟩:=tail oM (λh=>absurd h j);refine⟨λa=>?_,λa=>?_⟩
 .exact Ar.wrap<|Ar.wrap<|good _ _ (by rw[Xe a];exact f) (by rw[Xe a];omega)
 have:=k a;exact wa<|good _ _ (by rw[Xc a]) (by rw[Xc a];omega)
def zzy(a c:Int):(if¬(¬(a<0↔(1:Int)<0)↔c<0) then-(rup a.natAbs c.natAbs:Int) else(rup a.natAbs c.natAbs:Int))=z8 a c:=by
 unfold z8;show _=if a<0↔c<0 then((rup a.natAbs c.natAbs:Nat):Int) else-((rup a.natAbs c.natAbs:Nat):Int)
 generalize (rup a.natAbs c.natAbs:Int)=u
 by_cases b:a<0 <;> by_cases d:c<0 <;> simp[b,d]
def zw3(a c:Int)(d:R64 a)(e:R64 c):CG0 472 [i64 a,i64 1,i64 c] []
  (.tup [i64 (y7 (z8 a c)),pr (c≠0/\ -9223372036854775808<=z8 a c/\z8 a c<=9223372036854775807)]) []:=by
 refine zc func472<|Br.mk (λh=>?_) (λh=>?_)
 .refine zO (ze ?_) (zd λb=>b.1 h);subst h;simp[z8,y7]
 refine wg (zk1 a d)<|wg (zk1 1 dC)<|wg (zu8 a.natAbs (1:Int).natAbs oM oM) ?_;rw[show(1:Int).natAbs=1 by rfl,Jm,Ko (show a.natAbs<18446744073709551616 by omega),Xy (show a.natAbs<18446744073709551616 by omega)];refine wg (zk1 c e)<|wg (zzx (¬(¬(a<0↔(1:Int)<0)↔c<0)) a.natAbs c.natAbs oM oM oM) ?_;rw[zzy a c];exact zO .refl (zB ⟨λg=>⟨h,g⟩,λg=>g.2⟩)
def uZ(a b:Int)(c:R64 a)(d:R64 b):CX 433 [i64 a,i64 b] (i64 (y7 (z8 a b))):=by
 exact zc func433<|wg (zw3 a b c d)<|.refl
abbrev wl(x:BI):SV:=.agg (biE x)
end Go.Gs
