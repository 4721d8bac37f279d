/- Natural numbers, the program's: copies, comparing, sums, differences. -/
import Derived.Test.YtakicgnbhdpknaaGreatDoorPAP
import Derived.Laws.MathBits
set_option maxRecDepth 100000
set_option maxHeartbeats 8000000
set_option linter.all false
namespace Go.Gs
open Proofs.Tryz
open Go.Proofs
def zo8(a:LB)(k:a.length<=1000000000):CX 417 [.sl dgE a] (.full dgE (zn (val a))):=by
 refine zc func417 λj=>?_;refine⟨Nat,λn=>⟨[(3,i64 n),(0,.sl dgE a)],[],0,22,0⟩,λn=>n<=a.length/\∀i,n<=i->dig a i=0,λn=>n,a.length,?_,?_,?_⟩
 .exact⟨Xj _,λi h=>za4 h⟩
 .exact zC []
 rintro n ⟨f,c⟩
 have post:(n=0∨dig a (n-1)≠0)->((a.drop (0:Int).toNat).take ((n:Int)-0).toNat)=zn (val a):=λb=>by
  rw[←zkV b f c];simp
 refine⟨λb=>?_,λb=>?_⟩
 .refine wa<|wb λx d=>?_;rw[show((n:Int)-1).toNat=n-1 by omega]at d;have dx:=zX d;refine⟨λg=>?_,λg=>?_⟩
  .refine wa<|⟨n-1,⟨oM,λi hi=>?_⟩,jo [] ⟨iR oM,rfl,tV⟩ trivial,oN⟩
   by_cases e:i=n-1
   .subst e;rw[dx];omega
   exact c i oM
  refine zyP.full (Ob.mk ⟨⟨oM,oM,rfl,oM⟩,λ_ _=>rfl⟩ ?_);exact zu2 (post (.inr oM))
 refine zyP.full (Ob.mk ⟨⟨oM,oM,rfl,oM⟩,λ_ _=>rfl⟩ ?_);exact zu2 (post (.inl oM))
def jz(a:LB)(b:a.length<=1000000000):CX 417 [.sl dgE a] (.sl dgE (zn (val a))):=(zo8 a b).le (zc1 rfl)
def zo9(q:LB)(b:q.length<=1000000000):CX 195 [.sl dgE q] (.sl dgE q):=by
 refine zc func195 ?_
 by_cases a:q=[]
 .refine zdE.any (Br.mk ?_ ?_)
  .subst a;exact zD
  refine⟨Dig,dgE,[],rfl,Ob.mk zfC ?_⟩;refine⟨q,rfl,Ob.mk (zie (by simp only[Xs];omega)) ?_⟩;exact z6 rfl
 refine zdE.some (λh=>a (Xp h))<|⟨Dig,dgE,[],rfl,Ob.mk zfC ?_⟩;refine⟨q,rfl,Ob.mk (zie (by simp only[Xs];omega)) ?_⟩;exact z6 rfl
def zay(a:LB)(b:a.length<=1000000000):CX 360 [.sl dgE a] (.sl dgE (zn (val a))):=by
 exact zc func360<|wg (jz a b)<|wg (zo9 _ (by have:=zK a;omega))<|.refl
def zeY(n:Nat)(a:n<18446744073709551616):CX 387 [u64 n] (.sl dgE (zn n)):=by
 refine zc func387<|Ar.wrap<|wb1<|Ar.wrap<|⟨Dig,dgE,[dof n,dof (n/4294967296)],congr (Xg (λn m=>[u32 n,u32 m]) (zby rfl)) (zby (by simp only[Int.reducePow];omega)),Ob.mk (dTwo _ _) ?_⟩;refine zb.see 0 _ (zay [dof n,dof (n/4294967296)] sI) rfl rfl rfl ?_;rw[zo7 _ a];exact .refl
def zeZ(a:LB)(i:Int)(hi:0<=i):CX 470 [.sl dgE a,i64 i] (u64 (dig a i.toNat)):=by
 refine zc func470 λc=>?_;refine⟨λh=>?_,λh=>?_⟩
 .refine wb λx b=>?_;have:=x.isLt;exact wa<|ze (by rw[zX b])
 exact ze (by rw[za4 oM];rfl)
def zk2{A B:Nat}(h:(zn A).length<(zn B).length):A<B:=by
 have a:=zc3 (n:=A) (Xj _);have b:=zo4 (n:=B) (λe=>by rw[e,j9]at h;simp at h);exact Xx a (XB (XJ dC oM) b)
def zEY(a b:LB)(q:a.length<=1000000000)(r:b.length<=1000000000):
  CX 464 [.sl dgE a,.sl dgE b] (i64 (zgU (val a) (val b))):=by
 refine zc func464<|wg (jz a q)<|wg (jz b r) ?_;have la:=zK a;have lb:=zK b;generalize val a=A at*;generalize val b=B at*;intro t u;refine⟨λl=>?_,λl=>?_⟩
 .intro v w;refine⟨λo=>?_,λo=>?_⟩
  .have:=zk2 (A:=A) (B:=B) oM;exact ze (by rw[zgU,Xe this])
  have:=zk2 (A:=B) (B:=A) oM;exact ze (by rw[zgU,Xc oM,Xe this])
 have l:(zn A).length=(zn B).length:=oM;intro z;refine wa<|⟨Nat,λj=>⟨[(5,i64 ((j:Int)-1)),(0,.sl dgE (zn A)),(1,.sl dgE (zn B))],[],0,45,0⟩,λj=>j<=(zn A).length/\∀i,j<=i->dig (zn A) i=dig (zn B) i,λj=>j,(zn A).length,?_,?_,?_⟩
 .exact⟨oM,λi hi=>by rw[za4 oM,za4 oM]⟩
 .exact zC []
 rintro j ⟨C,f⟩
 refine⟨λp=>?_,λp=>?_⟩
 .have c:∀i,j-1+1<=i->dig (zn A) i=dig (zn B) i:=λi hi=>f i oM
  refine wc<|wb λx h=>?_;rw[show((j:Int)-1).toNat=j-1 by omega]at h;have dx:=zX h;refine wb λy k=>?_;rw[show((j:Int)-1).toNat=j-1 by omega]at k;have dy:=zX k;refine⟨λm=>?_,λm=>?_⟩
  .have:=zgV c oM;rw[zr,zr]at this;exact ze (by rw[zgU,Xe this])
  refine wc<|wb λx' d=>?_;rw[show((j:Int)-1).toNat=j-1 by omega,h]at d
  cases d
  refine wb λD e=>?_;rw[show((j:Int)-1).toNat=j-1 by omega,k]at e
  cases e
  refine⟨λn=>?_,λn=>?_⟩
  .have:=zgV (λi hi=>(c i hi).symm) oM;rw[zr,zr]at this;exact ze (by rw[zgU,Xc oM,Xe this])
  refine wa<|⟨j-1,⟨oM,λi hi=>?_⟩,jo [] ⟨iR oM,rfl,rfl,tV⟩ trivial,oN⟩
  by_cases g:i=j-1
  .subst g;omega
  exact f i oM
 have s:j=0:=by omega
 subst s;have:=znm λi=>f i (Xh _)
 rw[zr,zr]at this;exact ze (by rw[zgU,Xc oM,Xc oM])
def zEZ(a b:LB)(C:a.length<=900000000)(D:b.length<=900000000):
  CX 419 [.sl dgE a,.sl dgE b] (.sl dgE (zn (val a+val b))):=by
 refine zc func419 λu v=>Ar.fit (by simp only[zdF];omega) ?_;have l:zdF (a.length:Int) [(b.length:Int)]+1=((max a.length b.length+1:Nat):Int):=by simp only[zdF];omega
 change ∃_,_;rw[l];generalize E:max a.length b.length+1=n at*;refine⟨Dig,dgE,0,rfl,wb7 ?_⟩;intro w
 refine⟨Nat×LB×Nat,λ⟨i,out,c⟩=>⟨[(17,i64 i),(16,i64 n),(6,u64 c),(5,.own 0),(0,.sl dgE a),(1,.sl dgE b)],[(0,qz out)],1,39,0⟩,
  λq=>q.1<=n/\q.2.1.length=n/\q.2.2<=1/\(∀j,q.1<=j->dig q.2.1 j=0)/\val q.2.1+4294967296^q.1*q.2.2=val (a.take q.1)+val (b.take q.1),λq=>n-q.1,(0,List.replicate n 0,0),?_,?_,?_⟩
 .exact⟨Xh _,sI,Xh _,λj _=>yQ _ _,by simp[zbc,val]⟩
 .exact zP [0] ⟨rfl,iR sI,rfl,rfl,rfl,rfl,tV⟩ ⟨rfl,tV⟩
 rintro⟨i,out,c⟩ ⟨m,g,o,d,k⟩
 dsimp only at m g o d k;refine⟨λr=>?_,λr=>?_⟩
 .have A:=yV a i;have B:=yV b i;refine wg (zeZ a _ oM)<|wg (zeZ b _ oM) ?_;simp only[XT];(iterate 2 refine wa ?_);refine Ar.wrap<|wb<|wb λz F=>?_;refine⟨dof (dig a i+dig b i+c),Xg (λn=>[u32 n]) (zby oM),?_⟩;refine wb1<|wa ?_
  refine⟨(i+1,out.set i (dof (dig a i+dig b i+c)),(dig a i+dig b i+c)/4294967296),⟨oN,by simp[g],oN,λj t=>?_,?_⟩,
   zP [0] ⟨rfl,rfl,Xg (λn=>some (u64 n)) (by simp only[Int.reducePow];omega),rfl,rfl,rfl,tV⟩ ⟨rfl,tV⟩,oN⟩
  .dsimp only at t ⊢;rw[jU,Xc oM];exact d j oM
  dsimp only;have f:=zar out i (dof (dig a i+dig b i+c)) oM;rw[d i (Xj _),kz,Kv,XW]at f;rw[f,zT,zT,X1];have e:=Kf (dig a i+dig b i+c) 4294967296;generalize (dig a i+dig b i+c)/4294967296=x at*;generalize (dig a i+dig b i+c)%4294967296=y at*;generalize 4294967296^i=p at*;clear f d
  grind
 have hi:i=n:=by omega
 subst hi;rw[kV oM,kV oM]at k
 have s:c=0:=by
  have G:=Xx (je a) (XJ (show 0<4294967296 by decide) (show a.length<=i-1 by omega));have H:=Xx (je b) (XJ (show 0<4294967296 by decide) (show b.length<=i-1 by omega));have e:4294967296^i=4294967296^(i-1)*4294967296:=by rw[←X1];congr 1;omega
  have:c=0∨c=1:=oM
  rcases this with h|h
  .exact h
  subst h;omega
 subst s;refine zb.see 0 _ (jz out oM) rfl rfl rfl ?_;rw[show val out=val a+val b by omega];exact .refl
def zE0(a b:LB)(G:a.length<=900000000)(H:b.length<=900000000):
  CX 423 [.sl dgE a,.sl dgE b] (.tup [.sl dgE (zn (val a-val b)),pr (val b<=val a)]):=by
 refine zc func423<|wg (zEY a b oM oM)<|⟨λh=>?_,λh=>?_⟩
 .have C:=zeW.1 h;refine zO ?_ (zd oM);rw[YF oM,j9];exact zD
 have d:val b<=val a:=Q6 λs=>h (zeW.2 s)
 refine wg (jz a oM) ?_;have la:=zK a;have ldef:=zc3 (n:=val a) (Xj _);intro A;generalize I:(zn (val a)).length=n at*;refine⟨Dig,dgE,0,rfl,wb7 ?_⟩;intro B
 refine⟨Nat×LB×Nat,λ⟨i,out,c⟩=>⟨[(20,i64 i),(19,i64 n),(7,u64 c),(6,.own 0),(0,.sl dgE a),(1,.sl dgE b)],[(0,qz out)],1,42,0⟩,
  λq=>q.1<=n/\q.2.1.length=n/\q.2.2<=1/\(∀j,q.1<=j->dig q.2.1 j=0)/\val q.2.1+val (b.take q.1)=val (a.take q.1)+4294967296^q.1*q.2.2,λq=>n-q.1,(0,List.replicate n 0,0),?_,?_,?_⟩
 .exact⟨Xh _,sI,Xh _,λj _=>yQ _ _,by simp[zbc,val]⟩
 .exact zP [0] ⟨rfl,iR sI,rfl,rfl,rfl,rfl,tV⟩ ⟨rfl,tV⟩
 rintro⟨i,out,c⟩ ⟨t,f,u,g,k⟩
 dsimp only at t f u g k;refine⟨λv=>?_,λv=>?_⟩
 .have D:=yV a i;have E:=yV b i;refine wg (zeZ a _ oM)<|wg (zeZ b _ oM) ?_;simp only[XT];refine Ar.wrap<|Ar.wrap<|Ar.wrap<|wb<|wb λz J=>?_;refine⟨dof (4294967296+dig a i-dig b i-c),Xg (λn=>[u32 n]) (by rw[zkX,yn,yn,kz];omega),?_⟩;refine wb1<|wa ?_
  refine⟨(i+1,out.set i (dof (4294967296+dig a i-dig b i-c)),1-(4294967296+dig a i-dig b i-c)/4294967296),⟨oN,by simp[f],oN,λj w=>?_,?_⟩,
   zP [0] ⟨rfl,rfl,Xg (λn=>some (u64 n)) (by rw[yn,yn];simp only[Int.reducePow];omega),rfl,rfl,rfl,tV⟩ ⟨rfl,tV⟩,oN⟩
  .dsimp only at w ⊢;rw[jU,Xc oM];exact g j oM
  dsimp only;have l:=zar out i (dof (4294967296+dig a i-dig b i-c)) oM;rw[g i (Xj _),kz,Kv,XW]at l;rw[l,zT,zT,X1];have e:(4294967296+dig a i-dig b i-c)%4294967296+dig b i+c=dig a i+4294967296*(1-(4294967296+dig a i-dig b i-c)/4294967296):=oM;generalize 1-(4294967296+dig a i-dig b i-c)/4294967296=x at*;generalize (4294967296+dig a i-dig b i-c)%4294967296=y at*;generalize 4294967296^i=p at*
  have F:p*y+p*dig b i+p*c=p*dig a i+p*4294967296*x:=by
   rw[←KL,←KL,e,KL,KI]
  omega
 have hi:i=n:=by omega
 subst hi;have o:val (a.take i)=val a:=by rw[zq1,Xy ldef]
 have r:val (b.take i)=val b:=by rw[zq1,Xy (Qh d ldef)]
 rw[o,r]at k;have m:=je out;rw[f]at m
 have e:val out=val a-val b:=by
  have:c=0∨c=1:=oM
  rcases this with rfl|rfl <;> omega
 refine zb.see 0 _ (jz out oM) rfl rfl rfl ?_;rw[e];exact zO .refl (zH d)
def zq5(xs:LB)(n:Nat)(h:xs.length=n+2):∃r,r<4294967296^n/\val xs=(dig xs (n+1)*4294967296+dig xs n)*4294967296^n+r:=by
 refine⟨val (xs.take n),qV xs n,?_⟩;have e:=kT xs n;have c:=zG xs n;have d:=zG xs (n+1);rw[kg (show xs.length<=n+1+1 by omega),Kv,XW]at d;rw[d]at c;rw[e,c];generalize dig xs (n+1)=a;generalize dig xs n=b;generalize 4294967296^n=p
 grind
def zq6{P v1 v2 rv top u2 ru q r:Nat}(i:rv<P)(h:ru<P)(j:2147483648<=v1)(k:v2<4294967296)(e:q*v1+r=top)(n:q<=4294967296)(a:q*v2<=r*4294967296+u2)(hQ:((top*4294967296+u2)*P+ru)/((v1*4294967296+v2)*P+rv)<=q):
  q=((top*4294967296+u2)*P+ru)/((v1*4294967296+v2)*P+rv)∨q=((top*4294967296+u2)*P+ru)/((v1*4294967296+v2)*P+rv)+1:=by
 have hP:0<P:=oM
 have hV:0<(v1*4294967296+v2)*P+rv:=by
  have:0<(v1*4294967296+v2)*P:=Nat.mul_pos oM hP;omega
 have key:(q-1)*((v1*4294967296+v2)*P+rv)<=(top*4294967296+u2)*P+ru:=by
  rcases Kx q with b|b
  .subst b;simp
  obtain⟨p,rfl⟩:∃p,q=p+1:=⟨q-1,oM⟩;rw[QA]
  have l:p*((v1*4294967296+v2)*P+rv)<=p*((v1*4294967296+v2+1)*P):=by
   refine Kl _ ?_;rw[Ka _ 1 P];omega
  have g:p*(v1*4294967296+v2+1)<=top*4294967296+u2:=by
   have c:(p+1)*v1=p*v1+v1:=by rw[Ka];omega
   have d:(p+1)*v2=p*v2+v2:=by rw[Ka];omega
   have f:p*(v1*4294967296+v2+1)=(p*v1)*4294967296+p*v2+p:=by
    rw[KL,KL,KI];omega
   rw[c]at e;rw[d]at a;rw[f];omega
  have m:p*((v1*4294967296+v2+1)*P)<=(top*4294967296+u2)*P:=by
   rw[←KI];exact Xv _ g
  omega
 have:=(JD hV).2 key;omega
def zw4{P v1 v2 rv top u2 ru q r:Nat}(g:ru<P)(e:q*v1+r=top)(f:r*4294967296+u2<q*v2):
  ((top*4294967296+u2)*P+ru)/((v1*4294967296+v2)*P+rv)<q:=by
 have hP:0<P:=oM
 have j:0<q:=by
  rcases Kx q with h|h
  .subst h;omega
  exact h
 have d:top*4294967296+u2+1<=q*(v1*4294967296+v2):=by
  have c:q*(v1*4294967296+v2)=(q*v1)*4294967296+q*v2:=by rw[KL,KI]
  rw[c];omega
 have a:(top*4294967296+u2)*P+ru<q*((v1*4294967296+v2)*P+rv):=by
  have b:(top*4294967296+u2+1)*P<=q*(v1*4294967296+v2)*P:=Xv _ d
  have i:q*(v1*4294967296+v2)*P<=q*((v1*4294967296+v2)*P+rv):=by
   rw[KI];exact Kl _ (Q4 _ _)
  rw[Ka _ 1 P]at b;omega
 have hV:0<(v1*4294967296+v2)*P+rv:=by
  rcases Kx ((v1*4294967296+v2)*P+rv) with h|h
  .rw[h]at a;omega
  exact h
 exact(X0 hV).2 a
def zw5{p q c b ui y lo e a d U V R:Nat}(h:R+q*V=U+p*(c+b))(i:lo+4294967296*e=c+q*y)(j:a+lo+b=ui+4294967296*d):
  R+p*a+q*(V+p*y)=U+p*ui+p*4294967296*(e+d):=by
 have f:a+(c+q*y)+b=ui+4294967296*(e+d):=oM;have g:p*(a+(c+q*y)+b)=p*(ui+4294967296*(e+d)):=by rw[f]
 grind
def n_mul(d f:LB)(X:d.length<=400000000)(Y:f.length<=400000000):
  CX 445 [.sl dgE d,.sl dgE f] (.sl dgE (zn (val d*val f))):=by
 refine zc func445<|wg (jz d oM)<|wg (jz f oM) ?_;have la:=zK d;have lb:=zK f;have F:=zr (val d);have G:=zr (val f);generalize zn (val d)=a at*;generalize zn (val f)=b at*;rw[←F,←G];clear F G;intro N O;refine wa<|⟨Dig,dgE,0,rfl,wb7 ?_⟩;intro P
 refine⟨Nat×LB,λ⟨i,out⟩=>⟨[(23,i64 i),(22,i64 a.length),(21,.sl dgE a),(5,.own 0),(1,.sl dgE b)],[(0,qz out)],1,73,0⟩,
  λq=>q.1<=a.length/\q.2.length=a.length+b.length/\val q.2=val (a.take q.1)*val b/\∀j,q.1+b.length<=j->dig q.2 j=0,λq=>a.length-q.1,(0,List.replicate (a.length+b.length) 0),?_,?_,?_⟩
 .exact⟨Xh _,sI,by simp[zbc,val],λj _=>yQ _ _⟩
 .exact zt [0] ⟨Xg (λn=>some (qz (List.replicate n 0))) oM,tV⟩
 rintro⟨i,out0⟩ ⟨J,v,h,s⟩
 dsimp only at J v h s;refine⟨λK=>?_,λK=>?_⟩
 .refine wb λx(T:a[i]?=some x)=>?_;have dx:=zX T;have A:=x.isLt;refine⟨λL=>?_,λL=>?_⟩
  .refine wa<|⟨(i+1,out0),⟨oN,v,?_,λj t=>s j (by dsimp only at t;omega)⟩,zf [0],oN⟩;dsimp only;rw[zT,dx,show x.val=0 by omega,Kv,XW];exact h
  intro Q
  refine⟨Nat×LB×Nat,λ⟨k,out,c⟩=>⟨[(32,i64 k),(31,i64 b.length),(30,.sl dgE b),(8,u64 c),(7,u32 x.val),(6,i64 i),(23,i64 i),(22,i64 a.length),(21,.sl dgE a),(5,.own 0),(1,.sl dgE b)],[(0,qz out)],1,73,0⟩,
   λq=>q.1<=b.length/\q.2.1.length=a.length+b.length/\q.2.2<4294967296/\val q.2.1+4294967296^(i+q.1)*q.2.2=val out0+4294967296^i*(x.val*val (b.take q.1))/\∀j,i+b.length<=j->dig q.2.1 j=0,λq=>b.length-q.1,(0,out0,0),?_,?_,?_⟩
  .exact⟨Xh _,v,oN,by simp[val],s⟩
  .exact zf [0]
  rintro⟨k,out,c⟩ ⟨H,u,D,m,g⟩
  dsimp only at H u D m g;refine⟨λI=>?_,λI=>?_⟩
  .refine wb λy(U:b[k]?=some y)=>?_;have dy:=zX U;have B:=y.isLt;have S:=zeX A B;(iterate 4 refine wa ?_);refine wb<|wb λz E=>?_;rw[show((i:Int)+k).toNat=i+k by omega]at E;have dz:=zX E;have V:=z.isLt;(iterate 4 refine wa ?_);refine Ar.wrap<|wb<|wb λW C=>?_;refine⟨dof (x.val*y.val+z.val+c),Xg (λn=>[u32 n]) (zby oM),?_⟩;refine wb1<|wa ?_
   refine⟨(k+1,out.set (i+k) (dof (x.val*y.val+z.val+c)),(x.val*y.val+z.val+c)/4294967296),⟨oN,by simp[u],oN,?_,?_⟩,
    zP [0] ⟨rfl,rfl,rfl,Xg (λn=>some (u64 n)) (by simp only[Int.reducePow];omega),rfl,rfl,rfl,rfl,rfl,rfl,rfl,tV⟩ ⟨Xg (λn=>some (qz (out.set n _))) oM,tV⟩,oN⟩
   .dsimp only;have l:=zar out (i+k) (dof (x.val*y.val+z.val+c)) oM;rw[kz,dz]at l;rw[zT,dy,←KH i k 1,X1];have e:=Kf (x.val*y.val+z.val+c) 4294967296;rw[Kj]at m l ⊢;exact zq2 m l e
   intro j t;dsimp only;rw[jU,Xc oM];exact g j t
  have M:k=b.length:=by omega
  intro R;refine wa<|Ar.wrap<|wb<|wb λW C=>?_;refine⟨dof c,Xg (λn=>[u32 n]) (zby rfl),?_⟩;refine wa ?_
  refine⟨(i+1,out.set (i+b.length) (dof c)),⟨oN,by simp[u],?_,?_⟩,
   zt [0] ⟨Xg (λn=>some (qz (out.set n _))) oM,tV⟩,oN⟩
  .dsimp only;have l:=zar out (i+b.length) (dof c) oM;rw[kz,g _ (Xj _),Xy D]at l;rw[M,kV (Xj _),h]at m;rw[zT,dx];generalize val (out.set (i+b.length) _)=r at*;generalize 4294967296^i=p at*;generalize 4294967296^(i+b.length)=q at*;generalize val (a.take i)=w at*;generalize x.val=x at*;generalize val out=o at*;clear s g
   grind
  intro j t;dsimp only;rw[jU,Xc oM];exact g j oM
 have hi:i=a.length:=by omega
 rw[hi,kV (Xj _)]at h;refine zb.see 0 _ (jz out0 oM) rfl rfl rfl ?_;rw[h];exact .refl
def zgZ{x y:Nat}{e:Int}(f:x<4294967296)(d:y<4294967296)(c:e=(x:Int)*2^32):vr .or .u64 e y=((x*4294967296+y:Nat):Int):=by
 have a:e=((x*4294967296:Nat):Int):=by rw[c];simp only[Int.reducePow];omega
 rw[a,zkZ oM oM];have:=Qi (i:=32) (b:=y) (by rw[show 2^32=4294967296 by decide];exact d) x;rw[show 2^32=4294967296 by decide,Ky]at this;rw[←this]
def n_one(a:LB)(d:Nat)(w:a.length<=900000000)(y:d<4294967296)(v:d≠0):
  CX 465 [.sl dgE a,u32 d] (.tup [.sl dgE (zn (val a/d)),u32 (val a%d:Nat)]):=by
 refine zc func465 λs=>?_;refine⟨Dig,dgE,0,rfl,wb7 ?_⟩;intro t;refine wa ?_
 refine⟨Nat×LB×Nat,λ⟨j,out,r⟩=>⟨[(8,i64 ((j:Int)-1)),(7,u64 r),(6,.own 0),(0,.sl dgE a),(1,u32 d)],[(0,qz out)],1,43,0⟩,
  λq=>q.1<=a.length/\q.2.1.length=a.length/\q.2.2<d/\val (a.drop q.1)=d*val (q.2.1.drop q.1)+q.2.2,λq=>q.1,(a.length,List.replicate a.length 0,0),?_,?_,?_⟩
 .refine⟨Xj _,sI,oN,?_⟩;dsimp only;rw[kg (Xj _),kg sI,Kv]
 .exact zt [0] ⟨Xg (λn=>some (qz (List.replicate n 0))) oM,tV⟩
 rintro⟨j,out,r⟩ ⟨m,i,f,b⟩
 dsimp only at m i f b;refine⟨λo=>?_,λo=>?_⟩
 .refine wb1<|Ar.fit (by simp only[Int.reducePow];omega)<|wb λx l=>?_;rw[show((j:Int)-1).toNat=j-1 by omega]at l;have dx:=zX l;have h:=x.isLt;refine wa<|⟨_,(zgZ oM h rfl).symm,?_⟩
  have k:(r*4294967296+x.val)/d<4294967296:=by
   rw[X0 oM];have:r*4294967296+4294967296<=4294967296*d:=oM;omega
  have u:(r*4294967296+x.val)%d<d:=Kn _ oM;have g:=Kf (r*4294967296+x.val) d;refine wa<|Dv.pos ⟨oM,oM,by show _<=(18446744073709551615:Int);omega⟩ ?_;have c:((r*4294967296+x.val:Nat):Int)/(d:Int)=(((r*4294967296+x.val)/d:Nat):Int):=by simp
  have e:((r*4294967296+x.val:Nat):Int)%(d:Int)=(((r*4294967296+x.val)%d:Nat):Int):=by simp
  rw[c];generalize (r*4294967296+x.val)/d=qd at*;refine wa<|wb<|wb λz A=>?_;refine⟨dof qd,Xg (λn=>[u32 n]) (by rw[kz,Xy k]),?_⟩;refine wa<|Dv.pos ⟨oM,oM⟩ ?_;rw[e];generalize (r*4294967296+x.val)%d=rd at*;refine wa ?_
  refine⟨(j-1,out.set (j-1) (dof qd),rd),⟨oN,by simp[i],u,?_⟩,
   zP [0] ⟨iR oM,rfl,rfl,rfl,rfl,tV⟩ ⟨Xg (λn=>some (qz (out.set n _))) oM,tV⟩,oN⟩
  dsimp only;rw[zG a,dx,show j-1+1=j by omega];refine zq3 b oM g ?_;rw[zcb oM,kz,Xy k,show j-1+1=j by omega]
 have p:j=0:=by omega
 subst p;rw[Qc,Qc]at b
 have c:val out=val a/d:=by
  rw[b,QG oM,Ko f,XW]
 have e:r=val a%d:=by
  rw[b,QH,Xy f]
 refine zb.see 0 _ (jz out oM) rfl rfl rfl<|wa ?_;rw[c];exact zO .refl (ze (by rw[e]))
def zjh(v1 v2 u2 top:Nat):Nat->Nat->Nat
 |0,q=>q
 |f+1,q=>if 4294967296<=q∨(top-q*v1)*4294967296+u2<q*v2 then(if 4294967296<=top-(q-1)*v1 then q-1 else zjh v1 v2 u2 top f (q-1)) else q
def zq7{P v1 v2 rv top u2 ru Q:Nat}(b:rv<P)(a:ru<P)(c:2147483648<=v1)(d:v2<4294967296)(hQd:((top*4294967296+u2)*P+ru)/((v1*4294967296+v2)*P+rv)=Q)(hQ:Q<4294967296):∀(f q:Nat),q<f->q<=4294967297->q*v1<=top->Q<=q->
   zjh v1 v2 u2 top f q=Q∨zjh v1 v2 u2 top f q=Q+1
 |0,q,h,_,_,_=>oM
 |f+1,q,h,o,k,g=>by
  unfold zjh;have j:q*v1+(top-q*v1)=top:=oM
  by_cases e:4294967296<=q∨(top-q*v1)*4294967296+u2<q*v2
  .rw[Xe e]
   have l:Q<q:=by
    rcases e with e|e
    .omega
    rw[←hQd];exact zw4 a j e
   have m:(q-1)*v1+v1=q*v1:=by
    have:q=(q-1)+1:=oM;rw[this,Ka];simp
   by_cases i:4294967296<=top-(q-1)*v1
   .rw[Xe i];have n:(q-1)*v2<=4294967296*4294967295:=QB oM oM;have:=zq6 b a c d (q:=q-1) (r:=top-(q-1)*v1) (top:=top) (u2:=u2) oM oM oM (by rw[hQd];omega)
    rwa [hQd]at this
   rw[Xc i];exact zq7 b a c d hQd hQ f (q-1) oM oM oM oM
  rw[Xc e];have:=zq6 b a c d j (u2:=u2) oM oM (by rw[hQd];exact g)
  rwa [hQd]at this
def uJ(U V:LB):Nat:=dig U V.length*4294967296+dig U (V.length-1)
def zih(U V:LB):Nat:=zjh (dig V (V.length-1)) (dig V (V.length-2)) (dig U (V.length-2)) (uJ U V) (uJ U V/dig V (V.length-1)+1) (uJ U V/dig V (V.length-1))
def zFS{U V:LB}(hU:U.length=V.length+1)(m:2<=V.length)(k:val U<4294967296*val V):uJ U V<(dig V (V.length-1)+1)*4294967296:=by
 obtain⟨n,c⟩:∃n,V.length=n+1:=⟨V.length-1,oM⟩;have g:=kT U n;have d:=zG U n;have e:=zG U (n+1);rw[kg (show U.length<=n+1+1 by omega),Kv,XW]at e;have h:=kT V n;have f:=zG V n;rw[kg (show V.length<=n+1 by omega),Kv,XW]at f;have l:=qV V n;unfold uJ;rw[c,QA];rw[e]at d;rw[d]at g;rw[f]at h;have o:=zd4 n;generalize 4294967296^n=p at*;generalize dig U n=a at*;generalize dig U (n+1)=b at*;generalize dig V n=v at*
 have i:p*(a+4294967296*b)<p*(4294967296*(v+1)):=by
  have j:p*(4294967296*(v+1))=4294967296*(p*v+p):=by
   rw[Nat.mul_left_comm,KL p v 1,Jm]
  rw[j];generalize p*(a+4294967296*b)=X at*;generalize p*v=Va at*;omega
 have:=J9 i;omega
def zno{U V:LB}(hU:U.length=V.length+1)(k:2<=V.length)(l:2147483648<=dig V (V.length-1))(a:val U<4294967296*val V):
  (zih U V=val U/val V∨zih U V=val U/val V+1)/\val U/val V<=uJ U V/dig V (V.length-1)/\uJ U V/dig V (V.length-1)<=4294967297:=by
 have hest:=zzt (r:=U) (b:=V) oM a;have htop:=zFS hU k a
 have hVp:0<val V:=by
  rcases Kx (val V) with h|h
  .rw[h]at a;omega
  exact h
 have hQ:val U/val V<4294967296:=(X0 hVp).2 a
 have d:uJ U V/dig V (V.length-1)<=4294967297:=by
  have:uJ U V/dig V (V.length-1)<4294967298:=by
   rw[X0 oM];omega
  omega
 refine⟨?_,hest,d⟩;obtain⟨n,c⟩:∃n,V.length=n+2:=⟨V.length-2,oM⟩;have f:=kT U n;have g:=zG U n;have i:=zG U (n+1);have e:=zG U (n+1+1);rw[kg (show U.length<=n+1+1+1 by omega),Kv,XW]at e;have j:=qV U n;obtain⟨rv,m,o⟩:=zq5 V n c
 have eU:val U=(uJ U V*4294967296+dig U (V.length-2))*4294967296^n+val (U.take n):=by
  unfold uJ;rw[c,show n+2-1=n+1 by omega,show n+2-2=n by omega,f,g,i,e];generalize 4294967296^n=p
  grind
 have eV:val V=(dig V (V.length-1)*4294967296+dig V (V.length-2))*4294967296^n+rv:=by
  rw[c,show n+2-1=n+1 by omega,show n+2-2=n by omega];exact o
 have key:=zq7 (P:=4294967296^n) (v1:=dig V (V.length-1)) (v2:=dig V (V.length-2)) (top:=uJ U V) (u2:=dig U (V.length-2)) (Q:=val U/val V) m j l (yV _ _) (by rw[←eU,←eV]) hQ
  (uJ U V/dig V (V.length-1)+1) (uJ U V/dig V (V.length-1)) oM d (JV _ _) hest
 exact key
def zC2(U V:LB)(Q:V.length<=900000000)(hU:U.length=V.length+1)(M:2<=V.length)(D:2147483648<=dig V (V.length-1))(m:val U<4294967296*val V):
  CX 468 [.sl dgE U,.sl dgE V] (u64 (zih U V:Nat)):=by
 obtain⟨_,hQ,p⟩:=zno hU M D m;have hG:zih U V=zjh (dig V (V.length-1)) (dig V (V.length-2)) (dig U (V.length-2)) (uJ U V) (uJ U V/dig V (V.length-1)+1) (uJ U V/dig V (V.length-1)):=rfl;refine zc func468 λL=>wc<|wb λx(O:U[V.length]?=some x)=>?_;have dx:=zX O;have v:=x.isLt;refine wa<|wb1<|Ar.fit (by simp only[Int.reducePow];omega)<|wa<|wb λy F=>?_;rw[show((V.length:Int)-1).toNat=V.length-1 by omega]at F;have dy:=zX F
 have A:=y.isLt;refine wa<|⟨_,(zgZ v A rfl).symm,?_⟩;have ht:uJ U V=x.val*4294967296+y.val:=by unfold uJ;rw[dx,dy]
 rw[←ht];have N:uJ U V<18446744073709551616:=oM;generalize uJ U V=T at*;refine wc<|wa<|wb λv1 b=>?_;rw[show((V.length:Int)-1).toNat=V.length-1 by omega]at b;have G:=zX b;have h1l:=v1.isLt;rw[G]at D hQ p hG;refine wa<|Dv.pos ⟨oM,oM,by show _<=(18446744073709551615:Int);omega⟩<|wa<|wb λP hv1'=>?_;rw[show((V.length:Int)-1).toNat=V.length-1 by omega,b]at hv1'
 cases hv1'
 refine wa<|Dv.pos ⟨oM,oM⟩ ?_;have i:=Kf T v1.val;have o:T%v1.val<v1.val:=Kn _ oM
 refine⟨Nat×Nat×Nat,λ⟨f,q,r⟩=>⟨[(7,u64 q),(8,u64 r),(0,.sl dgE U),(1,.sl dgE V),(5,i64 V.length)],[],0,77,0⟩,
  λs=>s.2.1<s.1/\s.2.1<=4294967297/\s.2.2<4294967296/\s.2.1*v1.val+s.2.2=T/\zih U V=zjh v1.val (dig V (V.length-2)) (dig U (V.length-2)) T s.1 s.2.1,λs=>s.1,
  (T/v1.val+1,T/v1.val,T%v1.val),?_,?_,?_⟩
 .exact⟨oN,p,oN,by dsimp only;rw[Ky];exact i,hG⟩
 .exact jo [] ⟨Xg (λn=>some (u64 n)) sI,Xg (λn=>some (u64 n)) sI,rfl,rfl,rfl,tV⟩ trivial
 clear hG hQ p i o ht
 rintro⟨f,q,r⟩ ⟨H,I,C,J,a⟩
 dsimp only at H I C J a;obtain⟨l,rfl⟩:∃l,f=l+1:=⟨f-1,oM⟩;unfold zjh at a;have er:T-q*v1.val=r:=oM;rw[er]at a
 have dec:1<=q->(q-1)*v1.val+v1.val=q*v1.val:=λh=>by
  have:q=(q-1)+1:=oM;rw[this,Ka];simp
 refine wc<|wb1<|Br.mk (λe=>?_) (λe=>?_)
 .have e:4294967296<=q:=by simp only[Int.reducePow]at e;omega
  rw[Xe (.inl e)]at a;have K:=dec oM;have d:T-(q-1)*v1.val=r+v1.val:=oM;rw[d]at a;(iterate 2 refine wa ?_);refine wb λz k=>?_;rw[show((V.length:Int)-1).toNat=V.length-1 by omega,b]at k
  cases k
  (iterate 2 refine wa ?_);refine wb1<|Br.mk (λc=>?_) (λc=>?_)
  .rw[Xe (by simp only[Int.reducePow]at c;omega)]at a;exact ze oM
  rw[Xc (by simp only[Int.reducePow]at c;omega)]at a
  exact⟨(l,q-1,r+v1.val),⟨oN,oN,by dsimp only;simp only[Int.reducePow]at c;omega,oN,a⟩,
   jo [] ⟨Xg (λn=>some (u64 n)) oM,rfl,rfl,rfl,rfl,tV⟩ trivial,oN⟩
 have e:q<4294967296:=by simp only[Int.reducePow]at e;omega
 refine wa<|wb λv2 j=>?_;rw[show((V.length:Int)-2).toNat=V.length-2 by omega]at j;have B:=zX j;have h2l:=v2.isLt;have R:=zeX e h2l;(iterate 2 refine wa ?_);refine wb1<|Ar.fit (by simp only[Int.reducePow];omega)<|wa<|wb λw E=>?_;rw[show((V.length:Int)-2).toNat=V.length-2 by omega]at E;have dw:=zX E;have u:=w.isLt;refine wa<|⟨_,(zgZ C u rfl).symm,?_⟩;rw[B,dw]at a;refine⟨λg=>?_,λg=>?_⟩
 .have g:r*4294967296+w.val<q*v2.val:=by
   rw[←Kb]at g;omega
  have t:1<=q:=by
   rcases Kx q with h|h
   .subst h;omega
   exact h
  rw[Xe (.inr g)]at a;have K:=dec t;have d:T-(q-1)*v1.val=r+v1.val:=oM;rw[d]at a;rw[←B,←dw]at a;(iterate 2 refine wa ?_);refine wb λz k=>?_;rw[show((V.length:Int)-1).toNat=V.length-1 by omega,b]at k
  cases k
  (iterate 2 refine wa ?_);refine wb1<|Br.mk (λc=>?_) (λc=>?_)
  .rw[Xe (by simp only[Int.reducePow]at c;omega)]at a;exact ze oM
  rw[Xc (by simp only[Int.reducePow]at c;omega)]at a
  exact⟨(l,q-1,r+v1.val),⟨oN,oN,by dsimp only;simp only[Int.reducePow]at c;omega,oN,a⟩,
   jo [] ⟨Xg (λn=>some (u64 n)) oM,rfl,rfl,rfl,rfl,tV⟩ trivial,oN⟩
 have g:¬(4294967296<=q∨r*4294967296+w.val<q*v2.val):=by
  rw[←Kb]at g;omega
 rw[Xc g]at a;exact ze (by rw[a])
def yf(k n:Nat):LB:=(List.range k).map λi=>dof (n/4294967296^i)
def yx(k n:Nat):(yf k n).length=k:=by simp[yf]
def zzz{xs ys:LB}(c:xs.length=ys.length)(h:∀i,i<xs.length->dig xs i=dig ys i):xs=ys:=by
 refine List.ext_getElem c λi a b=>Fin.ext ?_
 have:=h i a
 rwa [zX (Xb a),zX (Xb b)]at this
def zu9(w:LB):yf w.length (val w)=w:=by
 refine zzz (yx _ _) λi hi=>?_
 rw[yx]at hi;rw[zCY w i];have:(yf w.length (val w))[i]?=some (dof (val w/4294967296^i)):=by simp[yf,hi]
 rw[zX this,kz]
def zva{k n:Nat}(h:n<4294967296^k):val (yf k n)=n:=by
 have:=zd7 (xs:=yf k n) (N:=n) (λj a=>by
  rw[yx]at a;have e:(yf k n)[j]?=some (dof (n/4294967296^j)):=by simp[yf,a]
  rw[zX e,kz])
 rw[yx,Xy h]at this;exact this
def zjS{pre w post:LB}{i:Nat}(h:i<w.length):(pre++(w++post))[pre.length+i]?=w[i]? :=by
 rw[XF oM,Yl,XL h]
def zjT{pre w post:LB}{i:Nat}{d:Dig}(h:i<w.length):(pre++(w++post)).set (pre.length+i) d=pre++(w.set i d++post):=by
 rw[YB _ _ oM,Yl,List.set_append_left _ _ h]
def zq8(W V:LB)(q:Nat):LB:=yf W.length (if val W<q*val V then val W+4294967296^W.length-q*val V else val W-q*val V)
def zFT{x:Nat}{e:Int}(h:e=x):vr .and .u64 e 4294967295=((x%4294967296:Nat):Int):=by rw[h];exact zu7 x
def zk3{u lo b:Nat}(d:u<4294967296)(c:lo<4294967296)(a:b<=1):
  ((dof (8589934592+u-lo-b)).val:Int)=IntKind.u32.wrap (IntKind.u64.wrap (IntKind.u64.wrap ((u:Int)-lo)-b))/\
  IntKind.u64.wrap (IntKind.u64.wrap ((u:Int)-lo)-b)/2^63=(((if u<lo+b then 1 else 0:Nat)):Int)/\
  (8589934592+u-lo-b)%4294967296+lo+b=u+4294967296*(if u<lo+b then 1 else 0):=by
 rw[zkX,yn,yn,kz];simp only[Int.reducePow];refine⟨oM,?_,?_⟩
 .split <;> omega
 split <;> omega
def zFU(pre W post V:LB)(q:Nat)(hW:W.length=V.length+1)(M:q<=4294967296):
  CG0 469 [.win 0 1 (pre.length:Int) (W.length:Int),.sl dgE V,u64 q] [(0,qz (pre++(W++post)))] (pr (val W<q*val V)) [(0,qz (pre++(zq8 W V q++post)))]:=by
 refine ut tok mix func469 rfl rfl rfl (qT _) rfl λK=>?_
 refine⟨Nat×LB×Nat×Nat,λ⟨i,w,c,b⟩=>⟨[(15,i64 i),(14,i64 V.length),(13,.sl dgE V),(7,u64 c),(8,u64 b),(0,.win 0 1 (pre.length:Int) (W.length:Int)),(1,.sl dgE V),(2,u64 q)],[(0,qz (pre++(w++post)))],1,65,1⟩,
  λs=>s.1<=V.length/\s.2.1.length=W.length/\s.2.2.1<4294967296/\s.2.2.2<=1/\(∀j,s.1<=j->dig s.2.1 j=dig W j)/\val (s.2.1.take s.1)+q*val (V.take s.1)=val (W.take s.1)+4294967296^s.1*(s.2.2.1+s.2.2.2),
  λs=>V.length-s.1,(0,W,0,0),?_,?_,?_⟩
 .exact⟨Xh _,rfl,oN,Xh _,λ_ _=>rfl,by simp[val]⟩
 .exact zf [0]
 rintro⟨i,w,c,b⟩ ⟨I,g,H,t,k,v⟩
 dsimp only at I g H t k v;have d:(pre++(w++post)).length=pre.length+W.length+post.length:=by simp[g];omega
 refine⟨λQ=>?_,λQ=>?_⟩
 .refine wb λy(N:V[i]?=some y)=>?_;have dy:=zX N;have O:=y.isLt;have U:q*y.val<=4294967296*4294967295:=QB M oM;refine wa<|Ar.fit (by rw[←Kb];omega)<|Ar.fit (by rw[←Kb];omega)<|wb6<|Ob.mk (by rw[d];omega) λu e=>?_;have e:w[i]?=some u:=by rw[←zjS (pre:=pre) (post:=post) oM,←e];congr 1
  have du:=zX e;have f:=u.isLt;refine wa ?_;have ex:(c:Int)+(q:Int)*(y.val:Int)=((c+q*y.val:Nat):Int):=by simp
  refine⟨_,(zFT ex).symm,?_⟩;rw[ex];generalize hX:c+q*y.val=X at*;obtain⟨o,r,B⟩:=zk3 (u:=u.val) (lo:=X%4294967296) (b:=b) f (Kn _ dC) t;refine Ar.wrap<|Ar.wrap<|Ar.wrap<|wb6<|Ob.mk (by rw[d];omega) λz P=>?_;refine⟨dof (8589934592+u.val-X%4294967296-b),Xg (λn=>[u32 n]) o,?_⟩;refine wb1<|wb1<|wa ?_;generalize (if u.val<X%4294967296+b then 1 else 0)=m at*;have x:m<=1:=oM
  refine⟨(i+1,w.set i (dof (8589934592+u.val-X%4294967296-b)),X/4294967296,m),⟨oN,by simp[g],oN,x,λj J=>?_,?_⟩,
   qI [(0,some 0)] rfl rfl rfl ⟨rfl,rfl,rfl,Xg (λn=>some (u64 n)) (by simp only[Int.reducePow];omega),Xg (λn=>some (u64 n)) r,rfl,rfl,rfl,tV⟩
    ⟨Xg (λl=>some (qz l)) (by rw[←zjT oM];congr 1),tV⟩,oN⟩
  .dsimp only at J ⊢;rw[jU,Xc oM];exact k j oM
  dsimp only;rw[zT,zT,zT,X1,dy,jU,Xe ⟨rfl,oM⟩,kz,←k i (Xj _),du];have ht:(w.set i (dof (8589934592+u.val-X%4294967296-b))).take i=w.take i:=by rw[Jb oM]
  rw[ht];have T:=Kf X 4294967296;exact zw5 v oM B
 have hi:i=V.length:=by omega
 subst hi;intro L;refine wb6<|Ob.mk (by rw[d];omega) λu e=>?_;have e:w[V.length]?=some u:=by rw[←zjS (pre:=pre) (post:=post) oM,←e];congr 1
 have du:=zX e;have f:=u.isLt;refine wa ?_;obtain⟨o,r,B⟩:=zk3 (u:=u.val) (lo:=c) (b:=b) f H t;refine Ar.wrap<|Ar.wrap λhl10=>Ar.wrap<|wb6<|Ob.mk (by rw[d];omega) λz P=>?_;refine⟨dof (8589934592+u.val-c-b),Xg (λn=>[u32 n]) o,?_⟩;refine wb1 ?_
 have ev:val (w.set V.length (dof (8589934592+u.val-c-b)))+q*val V=val W+4294967296^W.length*(if u.val<c+b then 1 else 0):=by
  have C:=zar w V.length (dof (8589934592+u.val-c-b)) oM;have D:=kT w V.length;have E:=zG w V.length;rw[kg (show w.length<=V.length+1 by omega),Kv,XW]at E;rw[E]at D;have F:=kT W V.length;have G:=zG W V.length;rw[kg (show W.length<=V.length+1 by omega),Kv,XW]at G;rw[G]at F;rw[kV (Xj V.length)]at v;rw[hW,X1,F,←k _ (Xj _),du];rw[du]at C D;rw[kz]at C;generalize (if u.val<c+b then 1 else 0)=m at*
  generalize (8589934592+u.val-c-b)%4294967296=R at*;generalize 4294967296^V.length=p at*;have S:p*(R+c+b)=p*(u.val+4294967296*m):=by rw[B]
  generalize u.val=u at*;generalize val (w.take V.length)=wt at*;generalize val (W.take V.length)=Wt at*;generalize q*val V=qv at*;clear k o r
  grind
 have A:=je (w.set V.length (dof (8589934592+u.val-c-b)));rw[XS,g]at A
 have hneg:(u.val<c+b)↔val W<q*val V:=by
  constructor
  .intro h;rw[Xe h]at ev;omega
  intro h
  by_cases a:u.val<c+b
  .exact a
  rw[Xc a]at ev;omega
 have hfin:w.set V.length (dof (8589934592+u.val-c-b))=zq8 W V q:=by
  rw[←zu9 (w.set V.length (dof (8589934592+u.val-c-b)))];unfold zq8;rw[XS,g];congr 1
  by_cases a:val W<q*val V
  .rw[Xe a];rw[Xe (hneg.2 a)]at ev;omega
  rw[Xc a];rw[Xc (λh=>a (hneg.1 h))]at ev;omega
 refine⟨Xg (λl=>some (qz l)) ?_,zB ?_⟩
 .rw[←hfin,←zjT oM];congr 1
 rw[r,←hneg]
 by_cases a:u.val<c+b
 .simp[a]
 simp[a]
def zq9{α:Type}{enc:α->LR}:LE nS (.full enc []):=λS Pm O w v a=>by
 rw[a.val_inv];exact .d _ _ (.full enc [] none (.nil enc none))
def or32{x y:Nat}(a:x<4294967296)(b:y<4294967296):vr .or .u32 x y=((x|||y:Nat):Int):=by
 show IntKind.u32.wrap ((BitVec.ofInt 32 x|||BitVec.ofInt 32 y).toNat:Nat)=_;have h:x|||y<2^32:=Nat.or_lt_two_pow a b
 have e:(BitVec.ofInt 32 x|||BitVec.ofInt 32 y).toNat=x|||y:=by
  rw[BitVec.toNat_or,Qg,Qg];congr 1
  .omega
  omega
 rw[e,zkX];omega
def zFV{c x s p:Nat}(k:p<32)(e:2^p=s)(h:c<s):c|||(x*s%4294967296)=c+x*s%4294967296/\c+x*s%4294967296<4294967296:=by
 have a:4294967296=s*2^(32-p):=by rw[←e,←Kj,show p+(32-p)=32 by omega]
 have j:x*s%4294967296=s*(x%2^(32-p)):=by rw[a,Ky x s,Nat.mul_mod_mul_left]
 have d:x%2^(32-p)<2^(32-p):=Kn _ (Qa dC);have f:=Qi (i:=p) (b:=c) (by rw[e];exact h) (x%2^(32-p));rw[e]at f;rw[j,Nat.or_comm,←f]
 have g:s*(x%2^(32-p))+s<=s*2^(32-p):=by
  rw[←YS];exact Kl _ d
 rw[←a]at g;exact⟨oM,oM⟩
def zC3{x y:Nat}{e:Int}(d:x<4294967296)(f:y<4294967296)(c:e=(y:Int)*2^32):vr .or .u64 x e=((y*4294967296+x:Nat):Int):=by
 have a:e=((y*4294967296:Nat):Int):=by rw[c];simp only[Int.reducePow];omega
 rw[a,zkZ oM oM,Nat.or_comm];have:=Qi (i:=32) (b:=x) (by rw[show 2^32=4294967296 by decide];exact d) y;rw[show 2^32=4294967296 by decide,Ky]at this;rw[←this]
def zzA{p w s v x lo hi o a b q:Nat}(h:o=w*(s*v))(c:a+p*w*q=o+p*w*(q+lo))(d:b=a+p*w*4294967296*hi)(e:4294967296*hi+lo=x*s):b=w*(s*(v+p*x)):=by
 subst d;subst h
 have:a=w*(s*v)+p*w*lo:=by
  rw[KL (p*w) q lo]at c;omega
 subst this
 grind
def zzB(b:LB)(n:Nat)(O:b.length<=800000000)(Q:n<=4096):
  CX 467 [.sl dgE b,i64 n] (.full dgE (zn (val b*2^n))):=by
 refine zc func467<|wg (jz b oM) ?_;have la:=zK b;have E:=zr (val b);generalize zn (val b)=a at*;rw[←E];clear E;have v:2^(n%32)<=2^31:=XJ dC oM;have e:0<2^(n%32):=Qa dC;generalize u:2^(n%32)=s at*;refine⟨λh=>by omega,λh=>?_⟩;have em:zb9 (n:Int) [4096]=n:=by simp only[zb9];omega
 change Dv _ _ _ _;rw[em];refine Dv.pos ⟨oM,oM,by show _<=(9223372036854775807:Int);omega⟩<|Dv.pos ⟨oM,oM⟩ λI=>?_;(iterate 2 refine wa ?_);refine⟨Dig,dgE,0,rfl,wb7 ?_⟩;intro J
 refine⟨Nat×LB,λ⟨i,out⟩=>⟨[(76,i64 i),(75,i64 a.length),(74,.sl dgE a),(9,i64 (n/32:Nat)),(10,i64 (n%32:Nat)),(11,.own 0)],[(0,qz out)],1,107,0⟩,
  λq=>q.1<=a.length/\q.2.length=a.length+n/32+1/\(∀j,q.1+n/32<j->dig q.2 j=0)/\dig q.2 (q.1+n/32)<s/\val q.2=4294967296^(n/32)*(s*val (a.take q.1)),λq=>a.length-q.1,(0,List.replicate (a.length+n/32+1) 0),?_,?_,?_⟩
 .refine⟨Xh _,sI,λj _=>yQ _ _,by dsimp only;rw[yQ];exact e,by simp[zbc,val]⟩
 .exact zP [0] ⟨rfl,rfl,rfl,iR oM,iR oM,rfl,tV⟩ ⟨Xg (λn=>some (qz (List.replicate n 0))) oM,tV⟩
 rintro⟨i,out⟩ ⟨F,y,k,m,f⟩
 dsimp only at F y k m f;refine⟨λG=>?_,λG=>?_⟩
 .refine wb λx(L:a[i]?=some x)=>?_;have dx:=zX L;have w:=x.isLt;refine wa<|wb12 ?_;have P:x.val*s<=4294967295*2^31:=QB oM v
  have d:(x.val:Int)*2^((n%32:Nat):Int).toNat=((x.val*s:Nat):Int):=by
   rw[←u,XT];simp
  have K:x.val*s<4294967296*s:=KV w e;refine Ar.fit (by rw[d];omega) ?_;rw[d];refine wa<|wb<|wb λc A=>?_;rw[show((i:Int)+(n/32:Nat)).toNat=i+n/32 by omega]at A;have dc:=zX A;have o:=c.isLt;rw[dc]at m;obtain⟨N,B⟩:=zFV (c:=c.val) (x:=x.val) (s:=s) (p:=n%32) oM u m;refine Ar.wrap ?_;have ew:IntKind.u32.wrap ((x.val*s:Nat):Int)=((x.val*s%4294967296:Nat):Int):=by rw[zkX];omega
  rw[ew];refine⟨_,(or32 o (Kn _ dC)).symm,?_⟩;rw[N];refine wb<|wb λz R=>?_;refine⟨dof (c.val+x.val*s%4294967296),Xg (λn=>[u32 n]) (by rw[kz,Xy B]),?_⟩;(iterate 2 refine wa ?_);refine wb1<|Ar.wrap<|Ob.mk (by rw[XS];omega)<|Ob.mk (by rw[XS];omega) λS M=>?_;have r:x.val*s/4294967296<s:=by rw[X0 dC];omega
  refine⟨dof (x.val*s/4294967296),Xg (λn=>[u32 n]) (zby (by simp only[Int.reducePow];omega)),?_⟩;refine wa ?_;have ei:((i:Int)+(n/32:Nat)).toNat=i+n/32:=oM;have g:((i:Int)+(n/32:Nat)+1).toNat=i+n/32+1:=oM
  refine⟨(i+1,(out.set (i+n/32) (dof (c.val+x.val*s%4294967296))).set (i+n/32+1) (dof (x.val*s/4294967296))),⟨oN,by simp[y],λj H=>?_,?_,?_⟩,
   zt [0] ⟨Xg (λl=>some (qz l)) (by rw[ei,g]),tV⟩,oN⟩
  .dsimp only at H ⊢;rw[jU,Xc oM,jU,Xc oM];exact k j oM
  .dsimp only;rw[show i+1+n/32=i+n/32+1 by omega,jU,Xe ⟨rfl,by rw[XS];omega⟩,kz,Xy oM];exact r
  dsimp only;have C:=zar out (i+n/32) (dof (c.val+x.val*s%4294967296)) oM;have D:=zar (out.set (i+n/32) (dof (c.val+x.val*s%4294967296))) (i+n/32+1) (dof (x.val*s/4294967296)) (by rw[XS];omega);rw[kz,Xy B,dc,Kj]at C;have t:x.val*s/4294967296%4294967296=x.val*s/4294967296:=Xy oM;rw[jU,Xc oM,k _ oM,Kv,XW,kz,t,X1,Kj]at D;rw[zT,dx];exact zzA f C D (Kf _ _)
 have hi:i=a.length:=by omega
 subst hi;rw[kV (Xj _),←u,zbx,←KI,←Kj,show 32*(n/32)+n%32=n by omega,Ky]at f;refine zb.see 0 _ (zo8 out oM) rfl rfl rfl ?_;rw[f];exact .refl
def n_shr(b:LB)(n:Nat)(v:b.length<=800000000)(w:n<=1000000000000)(u:n≠0):
  CX 467 [.sl dgE b,i64 (-(n:Int))] (.full dgE (zn (val b/2^n))):=by
 refine zc func467<|wg (jz b oM) ?_;have la:=zK b;have g:=zr (val b);generalize zn (val b)=a at*;rw[←g];clear g;refine⟨λh=>?_,λh=>by omega⟩;intro r;refine wa<|Br.mk (λo=>?_) (λo=>?_)
 .have e:val a/2^n=0:=by
   refine Ko (Xx (je a) ?_);rw[zbx];exact XJ dC oM
  rw[e,j9];exact zq9
 refine wa<|Dv.pos ⟨oM,oM,by show _<=(9223372036854775807:Int);omega⟩<|wa<|Dv.pos ⟨oM,oM⟩ λs=>wa<|⟨Dig,dgE,0,rfl,wb7 ?_⟩;intro t
 refine⟨Nat×LB,λ⟨i,out⟩=>⟨[(37,i64 i),(36,i64 (a.length-n/32:Nat)),(0,.sl dgE a),(5,i64 (n/32:Nat)),(6,i64 (n%32:Nat)),(7,.own 0)],[(0,qz out)],1,107,0⟩,
  λq=>q.1<=a.length-n/32/\q.2.length=a.length-n/32/\∀j,j<q.1->dig q.2 j=val a/2^n/4294967296^j%4294967296,λq=>a.length-n/32-q.1,(0,List.replicate (a.length-n/32) 0),?_,?_,?_⟩
 .exact⟨Xh _,sI,λj h=>by dsimp only at h;omega⟩
 .exact zP [0] ⟨rfl,iR (by simp;omega),rfl,iR oM,iR oM,rfl,tV⟩ ⟨Xg (λn=>some (qz (List.replicate n 0))) oM,tV⟩
 rintro⟨i,out⟩ ⟨m,d,c⟩
 dsimp only at m d c;refine⟨λp=>?_,λp=>?_⟩
 .have k:=yV a (n/32+i);have l:=yV a (n/32+i+1);refine wa<|wg (zeZ a _ oM) ?_;rw[show((i:Int)+(n/32:Nat)).toNat=n/32+i by omega];(iterate 2 refine wa ?_);refine wg (zeZ a _ oM) ?_;rw[show((i:Int)+(n/32:Nat)+1).toNat=n/32+i+1 by omega];refine wb1<|Ar.fit (by simp only[Int.reducePow];omega)<|⟨_,(zC3 k l rfl).symm,?_⟩;refine wb12<|Ar.wrap<|wb<|wb λz x=>?_
  refine⟨dof ((dig a (n/32+i+1)*4294967296+dig a (n/32+i))/2^(n%32)),Xg (λn=>[u32 n]) (zby (by rw[XT];simp)),?_⟩;refine wa ?_
  refine⟨(i+1,out.set i (dof ((dig a (n/32+i+1)*4294967296+dig a (n/32+i))/2^(n%32)))),⟨oN,by simp[d],λj f=>?_⟩,
   zf [0],oN⟩
  dsimp only at f ⊢
  by_cases e:i=j
  .subst e;rw[jU,Xe ⟨rfl,oM⟩,kz];have:=zu3 a (n/32) (n%32) i oM;rw[show 32*(n/32)+n%32=n by omega]at this;rw[this]
  rw[jU,Xc (λh=>e h.1)];exact c j oM
 have hi:i=a.length-n/32:=by omega
 have e:val out=val a/2^n:=by
  rw[zd7 (λj f=>c j oM),Xy];rw[X0 (Qa dC)];refine Xx (je a) ?_;rw[zbx,zbx,←Kj];exact XJ dC oM
 refine zb.see 0 _ (zo8 out oM) rfl rfl rfl ?_;rw[e];exact .refl
end Go.Gs
