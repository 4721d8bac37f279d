/- Natural numbers, the program's: products, quotients by one digit, guesses. -/
import Derived.Test.YtakicgnbhdpknaaGreatDoorNAS
import Derived.Laws.MathBits
set_option maxRecDepth 100000
set_option maxHeartbeats 8000000
set_option linter.all false
namespace Go.Gs
open Proofs.Tryz
open Go.Proofs
def n_mul(a0 b0:LB)(ha:a0.length<=400000000)(hb:b0.length<=400000000):
  CX 445 [.sl dgE a0,.sl dgE b0] (.sl dgE (zm (val a0*val b0))):=by
 refine zc func445<|wg (jv a0 oM)<|wg (jv b0 oM) ?_;have la:=zJ a0;have lb:=zJ b0;have va:=zo (val a0);have vb:=zo (val b0);generalize zm (val a0)=a at*;generalize zm (val b0)=b at*;rw[←va,←vb];clear va vb;intro hl1 hl2;refine wa<|⟨Dig,dgE,0,rfl,wb7 ?_⟩;intro hl3
 refine⟨Nat×LB,λ⟨i,out⟩=>⟨[(23,i64 i),(22,i64 a.length),(21,.sl dgE a),(5,.own 0),(1,.sl dgE b)],[(0,qr out)],1,73,0⟩,
  λq=>q.1<=a.length/\q.2.length=a.length+b.length/\val q.2=val (a.take q.1)*val b/\∀j,q.1+b.length<=j->dig q.2 j=0,λq=>a.length-q.1,(0,List.replicate (a.length+b.length) 0),?_,?_,?_⟩
 ·exact⟨Xh _,sI,by simp[zaT,val],λj _=>yN _ _⟩
 ·exact zu [0] ⟨Xg (λn=>some (qr (List.replicate n 0))) oM,tV⟩
 rintro⟨i,out0⟩ ⟨h1,h2,h3,h4⟩
 dsimp only at h1 h2 h3 h4;refine⟨λh5=>?_,λh5=>?_⟩
 ·refine wb λx(hx:a[i]?=some x)=>?_;have dx:=zV hx;have hxl:=x.isLt;refine⟨λh6=>?_,λh6=>?_⟩
  ·refine wa<|⟨(i+1,out0),⟨oN,h2,?_,λj hj=>h4 j (by dsimp only at hj;omega)⟩,zf [0],oN⟩;dsimp only;rw[zR,dx,show x.val=0 by omega,Ko,XP];exact h3
  intro hl6
  refine⟨Nat×LB×Nat,λ⟨k,out,c⟩=>⟨[(32,i64 k),(31,i64 b.length),(30,.sl dgE b),(8,u64 c),(7,u32 x.val),(6,i64 i),(23,i64 i),(22,i64 a.length),(21,.sl dgE a),(5,.own 0),(1,.sl dgE b)],[(0,qr out)],1,73,0⟩,
   λq=>q.1<=b.length/\q.2.1.length=a.length+b.length/\q.2.2<4294967296/\val q.2.1+4294967296^(i+q.1)*q.2.2=val out0+4294967296^i*(x.val*val (b.take q.1))/\∀j,i+b.length<=j->dig q.2.1 j=0,λq=>b.length-q.1,(0,out0,0),?_,?_,?_⟩
  ·exact⟨Xh _,h2,oN,by simp[val],h4⟩
  ·exact zf [0]
  rintro⟨k,out,c⟩ ⟨g1,g2,g3,g4,g5⟩
  dsimp only at g1 g2 g3 g4 g5;refine⟨λg6=>?_,λg6=>?_⟩
  ·refine wb λy(hy:b[k]?=some y)=>?_;have dy:=zV hy;have hyl:=y.isLt;have hm0:=zem hxl hyl;(iterate 4 refine wa ?_);refine wb<|wb λz hz=>?_;rw[show((i:Int)+k).toNat=i+k by omega]at hz;have dz:=zV hz;have hzl:=z.isLt;(iterate 4 refine wa ?_);refine Ar.wrap<|wb<|wb λz' hz'=>?_;refine⟨dof (x.val*y.val+z.val+c),Xg (λn=>[u32 n]) (zbc oM),?_⟩;refine wb1<|wa ?_
   refine⟨(k+1,out.set (i+k) (dof (x.val*y.val+z.val+c)),(x.val*y.val+z.val+c)/4294967296),⟨oN,by simp[g2],oN,?_,?_⟩,
    zS [0] ⟨rfl,rfl,rfl,Xg (λn=>some (u64 n)) (by simp only[Int.reducePow];omega),rfl,rfl,rfl,rfl,rfl,rfl,rfl,tV⟩ ⟨Xg (λn=>some (qr (out.set n _))) oM,tV⟩,oN⟩
   ·dsimp only;have hs:=v6 out (i+k) (dof (x.val*y.val+z.val+c)) oM;rw[ky,dz]at hs;rw[zR,dy,←KB i k 1,XU];have e:=X8 (x.val*y.val+z.val+c) 4294967296;rw[Ke]at g4 hs ⊢;exact zpD g4 hs e
   intro j hj;dsimp only;rw[jR,Xc oM];exact g5 j hj
  have hk:k=b.length:=by omega
  intro hl8;refine wa<|Ar.wrap<|wb<|wb λz' hz'=>?_;refine⟨dof c,Xg (λn=>[u32 n]) (zbc rfl),?_⟩;refine wa ?_
  refine⟨(i+1,out.set (i+b.length) (dof c)),⟨oN,by simp[g2],?_,?_⟩,
   zu [0] ⟨Xg (λn=>some (qr (out.set n _))) oM,tV⟩,oN⟩
  ·dsimp only;have hs:=v6 out (i+b.length) (dof c) oM;rw[ky,g5 _ (Xk _),Xy g3]at hs;rw[hk,kT (Xk _),h3]at g4;rw[zR,dx];generalize val (out.set (i+b.length) _)=r at*;generalize 4294967296^i=p at*;generalize 4294967296^(i+b.length)=q at*;generalize val (a.take i)=w at*;generalize x.val=x at*;generalize val out=o at*;clear h4 g5
   grind
  intro j hj;dsimp only;rw[jR,Xc oM];exact g5 j oM
 have hi:i=a.length:=by omega
 rw[hi,kT (Xk _)]at h3;refine zb.see 0 _ (jv out0 oM) rfl rfl rfl ?_;rw[h3];exact .refl
def zgA{x y:Nat}{e:Int}(hx:x<4294967296)(hy:y<4294967296)(he:e=(x:Int)*2^32):vh .or .u64 e y=((x*4294967296+y:Nat):Int):=by
 have h1:e=((x*4294967296:Nat):Int):=by rw[he];simp only[Int.reducePow];omega
 rw[h1,zj1 oM oM];have:=K6 (i:=32) (b:=y) (by rw[show 2^32=4294967296 by decide];exact hy) x;rw[show 2^32=4294967296 by decide,Ks]at this;rw[←this]
def n_one(a:LB)(d:Nat)(ha:a.length<=900000000)(hd:d<4294967296)(h0:d≠0):
  CX 465 [.sl dgE a,u32 d] (.tup [.sl dgE (zm (val a/d)),u32 (val a%d:Nat)]):=by
 refine zc func465 λhl1=>?_;refine⟨Dig,dgE,0,rfl,wb7 ?_⟩;intro hl2;refine wa ?_
 refine⟨Nat×LB×Nat,λ⟨j,out,r⟩=>⟨[(8,i64 ((j:Int)-1)),(7,u64 r),(6,.own 0),(0,.sl dgE a),(1,u32 d)],[(0,qr out)],1,43,0⟩,
  λq=>q.1<=a.length/\q.2.1.length=a.length/\q.2.2<d/\val (a.drop q.1)=d*val (q.2.1.drop q.1)+q.2.2,λq=>q.1,(a.length,List.replicate a.length 0,0),?_,?_,?_⟩
 ·refine⟨Xk _,sI,oN,?_⟩;dsimp only;rw[z8 (Xk _),z8 sI,Ko]
 ·exact zu [0] ⟨Xg (λn=>some (qr (List.replicate n 0))) oM,tV⟩
 rintro⟨j,out,r⟩ ⟨h1,h2,h3,h4⟩
 dsimp only at h1 h2 h3 h4;refine⟨λh5=>?_,λh5=>?_⟩
 ·refine wb1<|Ar.fit (by simp only[Int.reducePow];omega)<|wb λx hx=>?_;rw[show((j:Int)-1).toNat=j-1 by omega]at hx;have dx:=zV hx;have hxl:=x.isLt;refine wa<|⟨_,(zgA oM hxl rfl).symm,?_⟩
  have hq:(r*4294967296+x.val)/d<4294967296:=by
   rw[XS oM];have:r*4294967296+4294967296<=4294967296*d:=oM;omega
  have hm:(r*4294967296+x.val)%d<d:=Kk _ oM;have hdm:=X8 (r*4294967296+x.val) d;refine wa<|Dv.pos ⟨oM,oM,by show _<=(18446744073709551615:Int);omega⟩ ?_;have e1:((r*4294967296+x.val:Nat):Int)/(d:Int)=(((r*4294967296+x.val)/d:Nat):Int):=by simp
  have e2:((r*4294967296+x.val:Nat):Int)%(d:Int)=(((r*4294967296+x.val)%d:Nat):Int):=by simp
  rw[e1];generalize (r*4294967296+x.val)/d=qd at*;refine wa<|wb<|wb λz hz=>?_;refine⟨dof qd,Xg (λn=>[u32 n]) (by rw[ky,Xy hq]),?_⟩;refine wa<|Dv.pos ⟨oM,oM⟩ ?_;rw[e2];generalize (r*4294967296+x.val)%d=rd at*;refine wa ?_
  refine⟨(j-1,out.set (j-1) (dof qd),rd),⟨oN,by simp[h2],hm,?_⟩,
   zS [0] ⟨iR oM,rfl,rfl,rfl,rfl,tV⟩ ⟨Xg (λn=>some (qr (out.set n _))) oM,tV⟩,oN⟩
  dsimp only;rw[zG a,dx,show j-1+1=j by omega];refine zpE h4 oM hdm ?_;rw[zbP oM,ky,Xy hq,show j-1+1=j by omega]
 have hj:j=0:=by omega
 subst hj;rw[KY,KY]at h4
 have e1:val out=val a/d:=by
  rw[h4,Qy oM,Kh h3,XP]
 have e2:r=val a%d:=by
  rw[h4,Qz,Xy h3]
 refine zb.see 0 _ (jv out oM) rfl rfl rfl<|wa ?_;rw[e1];exact zM .refl (ze (by rw[e2]))
def zis(v1 v2 u2 top:Nat):Nat->Nat->Nat
 |0,q=>q
 |f+1,q=>if 4294967296<=q∨(top-q*v1)*4294967296+u2<q*v2 then(if 4294967296<=top-(q-1)*v1 then q-1 else zis v1 v2 u2 top f (q-1)) else q
def zpY{P v1 v2 rv top u2 ru Q:Nat}(hrv:rv<P)(hru:ru<P)(hv1:2147483648<=v1)(hv2:v2<4294967296)(hQd:((top*4294967296+u2)*P+ru)/((v1*4294967296+v2)*P+rv)=Q)(hQ:Q<4294967296):∀(f q:Nat),q<f->q<=4294967297->q*v1<=top->Q<=q->
   zis v1 v2 u2 top f q=Q∨zis v1 v2 u2 top f q=Q+1
 |0,q,h,_,_,_=>oM
 |f+1,q,h,hq,hle,hge=>by
  unfold zis;have hr:q*v1+(top-q*v1)=top:=oM
  by_cases hc:4294967296<=q∨(top-q*v1)*4294967296+u2<q*v2
  ·rw[Xe hc]
   have hlt:Q<q:=by
    rcases hc with hc|hc
    ·omega
    rw[←hQd];exact zvf hru hr hc
   have hq1:(q-1)*v1+v1=q*v1:=by
    have:q=(q-1)+1:=oM;rw[this,X2];simp
   by_cases hb:4294967296<=top-(q-1)*v1
   ·rw[Xe hb];have h1:(q-1)*v2<=4294967296*4294967295:=Qs oM oM;have:=zpX hrv hru hv1 hv2 (q:=q-1) (r:=top-(q-1)*v1) (top:=top) (u2:=u2) oM oM oM (by rw[hQd];omega)
    rwa [hQd]at this
   rw[Xc hb];exact zpY hrv hru hv1 hv2 hQd hQ f (q-1) oM oM oM oM
  rw[Xc hc];have:=zpX hrv hru hv1 hv2 hr (u2:=u2) oM oM (by rw[hQd];exact hge)
  rwa [hQd]at this
def uI(U V:LB):Nat:=dig U V.length*4294967296+dig U (V.length-1)
def zhC(U V:LB):Nat:=zis (dig V (V.length-1)) (dig V (V.length-2)) (dig U (V.length-2)) (uI U V) (uI U V/dig V (V.length-1)+1) (uI U V/dig V (V.length-1))
def zDu{U V:LB}(hU:U.length=V.length+1)(hn:2<=V.length)(hlt:val U<4294967296*val V):uI U V<(dig V (V.length-1)+1)*4294967296:=by
 obtain⟨n,hn'⟩:∃n,V.length=n+1:=⟨V.length-1,oM⟩;have e1:=kR U n;have e2:=zG U n;have e3:=zG U (n+1);rw[z8 (show U.length<=n+1+1 by omega),Ko,XP]at e3;have f1:=kR V n;have f2:=zG V n;rw[z8 (show V.length<=n+1 by omega),Ko,XP]at f2;have f3:=qR V n;unfold uI;rw[hn',Qr];rw[e3]at e2;rw[e2]at e1;rw[f2]at f1;have hp:=zdy n;generalize 4294967296^n=p at*;generalize dig U n=a at*;generalize dig U (n+1)=b at*;generalize dig V n=v at*
 have h1:p*(a+4294967296*b)<p*(4294967296*(v+1)):=by
  have h2:p*(4294967296*(v+1))=4294967296*(p*v+p):=by
   rw[Nat.mul_left_comm,KE p v 1,Jb]
  rw[h2];generalize p*(a+4294967296*b)=X at*;generalize p*v=Y at*;omega
 have:=JP h1;omega
def zms{U V:LB}(hU:U.length=V.length+1)(hn:2<=V.length)(hv:2147483648<=dig V (V.length-1))(hlt:val U<4294967296*val V):
  (zhC U V=val U/val V∨zhC U V=val U/val V+1)/\val U/val V<=uI U V/dig V (V.length-1)/\uI U V/dig V (V.length-1)<=4294967297:=by
 have hest:=zxf (r:=U) (b:=V) oM hlt;have htop:=zDu hU hn hlt
 have hVp:0<val V:=by
  rcases Kr (val V) with h|h
  ·rw[h]at hlt;omega
  exact h
 have hQ:val U/val V<4294967296:=(XS hVp).2 hlt
 have hq1:uI U V/dig V (V.length-1)<=4294967297:=by
  have:uI U V/dig V (V.length-1)<4294967298:=by
   rw[XS oM];omega
  omega
 refine⟨?_,hest,hq1⟩;obtain⟨n,hn'⟩:∃n,V.length=n+2:=⟨V.length-2,oM⟩;have e1:=kR U n;have e2:=zG U n;have e3:=zG U (n+1);have e4:=zG U (n+1+1);rw[z8 (show U.length<=n+1+1+1 by omega),Ko,XP]at e4;have e5:=qR U n;obtain⟨rv,r1,r2⟩:=zpW V n hn'
 have eU:val U=(uI U V*4294967296+dig U (V.length-2))*4294967296^n+val (U.take n):=by
  unfold uI;rw[hn',show n+2-1=n+1 by omega,show n+2-2=n by omega,e1,e2,e3,e4];generalize 4294967296^n=p
  grind
 have eV:val V=(dig V (V.length-1)*4294967296+dig V (V.length-2))*4294967296^n+rv:=by
  rw[hn',show n+2-1=n+1 by omega,show n+2-2=n by omega];exact r2
 have key:=zpY (P:=4294967296^n) (v1:=dig V (V.length-1)) (v2:=dig V (V.length-2)) (top:=uI U V) (u2:=dig U (V.length-2)) (Q:=val U/val V) r1 e5 hv (yS _ _) (by rw[←eU,←eV]) hQ
  (uI U V/dig V (V.length-1)+1) (uI U V/dig V (V.length-1)) oM hq1 (JE _ _) hest
 exact key
def zAH(U V:LB)(hl:V.length<=900000000)(hU:U.length=V.length+1)(hn:2<=V.length)(hv:2147483648<=dig V (V.length-1))(hlt:val U<4294967296*val V):
  CX 468 [.sl dgE U,.sl dgE V] (u64 (zhC U V:Nat)):=by
 obtain⟨_,hQ,hq⟩:=zms hU hn hv hlt;have hG:zhC U V=zis (dig V (V.length-1)) (dig V (V.length-2)) (dig U (V.length-2)) (uI U V) (uI U V/dig V (V.length-1)+1) (uI U V/dig V (V.length-1)):=rfl;refine zc func468 λhl1=>wc<|wb λx(hx:U[V.length]?=some x)=>?_;have dx:=zV hx;have hxl:=x.isLt;refine wa<|wb1<|Ar.fit (by simp only[Int.reducePow];omega)<|wa<|wb λy hy=>?_;rw[show((V.length:Int)-1).toNat=V.length-1 by omega]at hy;have dy:=zV hy
 have hyl:=y.isLt;refine wa<|⟨_,(zgA hxl hyl rfl).symm,?_⟩;have ht:uI U V=x.val*4294967296+y.val:=by unfold uI;rw[dx,dy]
 rw[←ht];have ht2:uI U V<18446744073709551616:=oM;generalize uI U V=T at*;refine wc<|wa<|wb λv1 hv1=>?_;rw[show((V.length:Int)-1).toNat=V.length-1 by omega]at hv1;have d1:=zV hv1;have h1l:=v1.isLt;rw[d1]at hv hQ hq hG;refine wa<|Dv.pos ⟨oM,oM,by show _<=(18446744073709551615:Int);omega⟩<|wa<|wb λv1' hv1'=>?_;rw[show((V.length:Int)-1).toNat=V.length-1 by omega,hv1]at hv1'
 cases hv1'
 refine wa<|Dv.pos ⟨oM,oM⟩ ?_;have hdm:=X8 T v1.val;have hml:T%v1.val<v1.val:=Kk _ oM
 refine⟨Nat×Nat×Nat,λ⟨f,q,r⟩=>⟨[(7,u64 q),(8,u64 r),(0,.sl dgE U),(1,.sl dgE V),(5,i64 V.length)],[],0,77,0⟩,
  λs=>s.2.1<s.1/\s.2.1<=4294967297/\s.2.2<4294967296/\s.2.1*v1.val+s.2.2=T/\zhC U V=zis v1.val (dig V (V.length-2)) (dig U (V.length-2)) T s.1 s.2.1,λs=>s.1,
  (T/v1.val+1,T/v1.val,T%v1.val),?_,?_,?_⟩
 ·exact⟨oN,hq,oN,by dsimp only;rw[Ks];exact hdm,hG⟩
 ·exact ji [] ⟨Xg (λn=>some (u64 n)) sI,Xg (λn=>some (u64 n)) sI,rfl,rfl,rfl,tV⟩ trivial
 clear hG hQ hq hdm hml ht
 rintro⟨f,q,r⟩ ⟨g1,g2,g3,g4,g5⟩
 dsimp only at g1 g2 g3 g4 g5;obtain⟨f',rfl⟩:∃f',f=f'+1:=⟨f-1,oM⟩;unfold zis at g5;have er:T-q*v1.val=r:=oM;rw[er]at g5
 have dec:1<=q->(q-1)*v1.val+v1.val=q*v1.val:=λh=>by
  have:q=(q-1)+1:=oM;rw[this,X2];simp
 refine wc<|wb1<|Br.mk (λk1=>?_) (λk1=>?_)
 ·have k1:4294967296<=q:=by simp only[Int.reducePow]at k1;omega
  rw[Xe (.inl k1)]at g5;have hd:=dec oM;have er2:T-(q-1)*v1.val=r+v1.val:=oM;rw[er2]at g5;(iterate 2 refine wa ?_);refine wb λz hz=>?_;rw[show((V.length:Int)-1).toNat=V.length-1 by omega,hv1]at hz
  cases hz
  (iterate 2 refine wa ?_);refine wb1<|Br.mk (λk3=>?_) (λk3=>?_)
  ·rw[Xe (by simp only[Int.reducePow]at k3;omega)]at g5;exact ze oM
  rw[Xc (by simp only[Int.reducePow]at k3;omega)]at g5
  exact⟨(f',q-1,r+v1.val),⟨oN,oN,by dsimp only;simp only[Int.reducePow]at k3;omega,oN,g5⟩,
   ji [] ⟨Xg (λn=>some (u64 n)) oM,rfl,rfl,rfl,rfl,tV⟩ trivial,oN⟩
 have k1:q<4294967296:=by simp only[Int.reducePow]at k1;omega
 refine wa<|wb λv2 hv2=>?_;rw[show((V.length:Int)-2).toNat=V.length-2 by omega]at hv2;have d2:=zV hv2;have h2l:=v2.isLt;have hm:=zem k1 h2l;(iterate 2 refine wa ?_);refine wb1<|Ar.fit (by simp only[Int.reducePow];omega)<|wa<|wb λw hw=>?_;rw[show((V.length:Int)-2).toNat=V.length-2 by omega]at hw;have dw:=zV hw;have hwl:=w.isLt;refine wa<|⟨_,(zgA g3 hwl rfl).symm,?_⟩;rw[d2,dw]at g5;refine⟨λk2=>?_,λk2=>?_⟩
 ·have k2:r*4294967296+w.val<q*v2.val:=by
   rw[←X3]at k2;omega
  have hq0:1<=q:=by
   rcases Kr q with h|h
   ·subst h;omega
   exact h
  rw[Xe (.inr k2)]at g5;have hd:=dec hq0;have er2:T-(q-1)*v1.val=r+v1.val:=oM;rw[er2]at g5;rw[←d2,←dw]at g5;(iterate 2 refine wa ?_);refine wb λz hz=>?_;rw[show((V.length:Int)-1).toNat=V.length-1 by omega,hv1]at hz
  cases hz
  (iterate 2 refine wa ?_);refine wb1<|Br.mk (λk3=>?_) (λk3=>?_)
  ·rw[Xe (by simp only[Int.reducePow]at k3;omega)]at g5;exact ze oM
  rw[Xc (by simp only[Int.reducePow]at k3;omega)]at g5
  exact⟨(f',q-1,r+v1.val),⟨oN,oN,by dsimp only;simp only[Int.reducePow]at k3;omega,oN,g5⟩,
   ji [] ⟨Xg (λn=>some (u64 n)) oM,rfl,rfl,rfl,rfl,tV⟩ trivial,oN⟩
 have k2:¬(4294967296<=q∨r*4294967296+w.val<q*v2.val):=by
  rw[←X3]at k2;omega
 rw[Xc k2]at g5;exact ze (by rw[g5])
def yc(k n:Nat):LB:=(List.range k).map λi=>dof (n/4294967296^i)
def yr(k n:Nat):(yc k n).length=k:=by simp[yc]
def zxI{xs ys:LB}(hl:xs.length=ys.length)(h:∀i,i<xs.length->dig xs i=dig ys i):xs=ys:=by
 refine List.ext_getElem hl λi h1 h2=>Fin.ext ?_
 have:=h i h1
 rwa [zV (Xb h1),zV (Xb h2)]at this
def ztN(w:LB):yc w.length (val w)=w:=by
 refine zxI (yr _ _) λi hi=>?_
 rw[yr]at hi;rw[zAu w i];have:(yc w.length (val w))[i]?=some (dof (val w/4294967296^i)):=by simp[yc,hi]
 rw[zV this,ky]
def ztO{k n:Nat}(h:n<4294967296^k):val (yc k n)=n:=by
 have:=zdB (xs:=yc k n) (N:=n) (λj hj=>by
  rw[yr]at hj;have e:(yc k n)[j]?=some (dof (n/4294967296^j)):=by simp[yc,hj]
  rw[zV e,ky])
 rw[yr,Xy h]at this;exact this
def zi1{pre w post:LB}{i:Nat}(h:i<w.length):(pre++(w++post))[pre.length+i]?=w[i]? :=by
 rw[XG oM,J3,XK h]
variable{i:Nat}
def zi2{pre w post:LB}{d:Dig}(h:i<w.length):(pre++(w++post)).set (pre.length+i) d=pre++(w.set i d++post):=by
 rw[Ym _ _ oM,J3,List.set_append_left _ _ h]
def zpZ(W V:LB)(q:Nat):LB:=yc W.length (if val W<q*val V then val W+4294967296^W.length-q*val V else val W-q*val V)
variable{x:Nat}{e:Int}
def zDv(h:e=x):vh .and .u64 e 4294967295=((x%4294967296:Nat):Int):=by rw[h];exact ztx x
def zkk{u lo b:Nat}(hu:u<4294967296)(hl:lo<4294967296)(hb:b<=1):
  ((dof (8589934592+u-lo-b)).val:Int)=IntKind.u32.wrap (IntKind.u64.wrap (IntKind.u64.wrap ((u:Int)-lo)-b))/\
  IntKind.u64.wrap (IntKind.u64.wrap ((u:Int)-lo)-b)/2^63=(((if u<lo+b then 1 else 0:Nat)):Int)/\
  (8589934592+u-lo-b)%4294967296+lo+b=u+4294967296*(if u<lo+b then 1 else 0):=by
 rw[zjZ,yl,yl,ky];simp only[Int.reducePow];refine⟨oM,?_,?_⟩
 ·split <;> omega
 split <;> omega
def zDw(pre W post V:LB)(q:Nat)(hW:W.length=V.length+1)(hq:q<=4294967296):
  CG0 469 [.win 0 1 (pre.length:Int) (W.length:Int),.sl dgE V,u64 q] [(0,qr (pre++(W++post)))] (pr (val W<q*val V)) [(0,qr (pre++(zpZ W V q++post)))]:=by
 refine un tok mix func469 rfl rfl rfl (qP _) rfl λhl0=>?_
 refine⟨Nat×LB×Nat×Nat,λ⟨i,w,c,b⟩=>⟨[(15,i64 i),(14,i64 V.length),(13,.sl dgE V),(7,u64 c),(8,u64 b),(0,.win 0 1 (pre.length:Int) (W.length:Int)),(1,.sl dgE V),(2,u64 q)],[(0,qr (pre++(w++post)))],1,65,1⟩,
  λs=>s.1<=V.length/\s.2.1.length=W.length/\s.2.2.1<4294967296/\s.2.2.2<=1/\(∀j,s.1<=j->dig s.2.1 j=dig W j)/\val (s.2.1.take s.1)+q*val (V.take s.1)=val (W.take s.1)+4294967296^s.1*(s.2.2.1+s.2.2.2),
  λs=>V.length-s.1,(0,W,0,0),?_,?_,?_⟩
 ·exact⟨Xh _,rfl,oN,Xh _,λ_ _=>rfl,by simp[val]⟩
 ·exact zf [0]
 rintro⟨i,w,c,b⟩ ⟨h1,h2,h3,h4,h5,h6⟩
 dsimp only at h1 h2 h3 h4 h5 h6;have hll:(pre++(w++post)).length=pre.length+W.length+post.length:=by simp[h2];omega
 refine⟨λk1=>?_,λk1=>?_⟩
 ·refine wb λy(hy:V[i]?=some y)=>?_;have dy:=zV hy;have hyl:=y.isLt;have hm:q*y.val<=4294967296*4294967295:=Qs hq oM;refine wa<|Ar.fit (by rw[←X3];omega)<|Ar.fit (by rw[←X3];omega)<|wb6<|Ob.mk (by rw[hll];omega) λu hu=>?_;have hu:w[i]?=some u:=by rw[←zi1 (pre:=pre) (post:=post) oM,←hu];congr 1
  have du:=zV hu;have hul:=u.isLt;refine wa ?_;have ex:(c:Int)+(q:Int)*(y.val:Int)=((c+q*y.val:Nat):Int):=by simp
  refine⟨_,(zDv ex).symm,?_⟩;rw[ex];generalize hX:c+q*y.val=X at*;obtain⟨t1,t2,t3⟩:=zkk (u:=u.val) (lo:=X%4294967296) (b:=b) hul (Kk _ dC) h4;refine Ar.wrap<|Ar.wrap<|Ar.wrap<|wb6<|Ob.mk (by rw[hll];omega) λz hz=>?_;refine⟨dof (8589934592+u.val-X%4294967296-b),Xg (λn=>[u32 n]) t1,?_⟩;refine wb1<|wb1<|wa ?_;generalize (if u.val<X%4294967296+b then 1 else 0)=b' at*;have hb':b'<=1:=oM
  refine⟨(i+1,w.set i (dof (8589934592+u.val-X%4294967296-b)),X/4294967296,b'),⟨oN,by simp[h2],oN,hb',λj hj=>?_,?_⟩,
   qF [(0,some 0)] rfl rfl rfl ⟨rfl,rfl,rfl,Xg (λn=>some (u64 n)) (by simp only[Int.reducePow];omega),Xg (λn=>some (u64 n)) t2,rfl,rfl,rfl,tV⟩
    ⟨Xg (λl=>some (qr l)) (by rw[←zi2 oM];congr 1),tV⟩,oN⟩
  ·dsimp only at hj ⊢;rw[jR,Xc oM];exact h5 j oM
  dsimp only;rw[zR,zR,zR,XU,dy,jR,Xe ⟨rfl,oM⟩,ky,←h5 i (Xk _),du];have ht:(w.set i (dof (8589934592+u.val-X%4294967296-b))).take i=w.take i:=by rw[Q3 oM]
  rw[ht];have hd:=X8 X 4294967296;exact zvg h6 oM t3
 have hi:i=V.length:=by omega
 subst hi;intro hl9;refine wb6<|Ob.mk (by rw[hll];omega) λu hu=>?_;have hu:w[V.length]?=some u:=by rw[←zi1 (pre:=pre) (post:=post) oM,←hu];congr 1
 have du:=zV hu;have hul:=u.isLt;refine wa ?_;obtain⟨t1,t2,t3⟩:=zkk (u:=u.val) (lo:=c) (b:=b) hul h3 h4;refine Ar.wrap<|Ar.wrap λhl10=>Ar.wrap<|wb6<|Ob.mk (by rw[hll];omega) λz hz=>?_;refine⟨dof (8589934592+u.val-c-b),Xg (λn=>[u32 n]) t1,?_⟩;refine wb1 ?_
 have ev:val (w.set V.length (dof (8589934592+u.val-c-b)))+q*val V=val W+4294967296^W.length*(if u.val<c+b then 1 else 0):=by
  have e1:=v6 w V.length (dof (8589934592+u.val-c-b)) oM;have e2:=kR w V.length;have e3:=zG w V.length;rw[z8 (show w.length<=V.length+1 by omega),Ko,XP]at e3;rw[e3]at e2;have f2:=kR W V.length;have f3:=zG W V.length;rw[z8 (show W.length<=V.length+1 by omega),Ko,XP]at f3;rw[f3]at f2;rw[kT (Xk V.length)]at h6;rw[hW,XU,f2,←h5 _ (Xk _),du];rw[du]at e1 e2;rw[ky]at e1;generalize (if u.val<c+b then 1 else 0)=b' at*
  generalize (8589934592+u.val-c-b)%4294967296=u' at*;generalize 4294967296^V.length=p at*;have e4:p*(u'+c+b)=p*(u.val+4294967296*b'):=by rw[t3]
  generalize u.val=u at*;generalize val (w.take V.length)=wt at*;generalize val (W.take V.length)=Wt at*;generalize q*val V=qv at*;clear h5 t1 t2
  grind
 have hvl:=q9 (w.set V.length (dof (8589934592+u.val-c-b)));rw[XV,h2]at hvl
 have hneg:(u.val<c+b)↔val W<q*val V:=by
  constructor
  ·intro h;rw[Xe h]at ev;omega
  intro h
  by_cases hh:u.val<c+b
  ·exact hh
  rw[Xc hh]at ev;omega
 have hfin:w.set V.length (dof (8589934592+u.val-c-b))=zpZ W V q:=by
  rw[←ztN (w.set V.length (dof (8589934592+u.val-c-b)))];unfold zpZ;rw[XV,h2];congr 1
  by_cases hh:val W<q*val V
  ·rw[Xe hh];rw[Xe (hneg.2 hh)]at ev;omega
  rw[Xc hh];rw[Xc (λh=>hh (hneg.1 h))]at ev;omega
 refine⟨Xg (λl=>some (qr l)) ?_,zE ?_⟩
 ·rw[←hfin,←zi2 oM];congr 1
 rw[t2,←hneg]
 by_cases hh:u.val<c+b
 ·simp[hh]
 simp[hh]
def zp0{α:Type}{enc:α->LR}:LE nS (.full enc []):=λS Pm ρ w v hg=>by
 rw[hg.val_inv];exact .d _ _ (.full enc [] none (.nil enc none))
def or32{y:Nat}(hx:x<4294967296)(hy:y<4294967296):vh .or .u32 x y=((x|||y:Nat):Int):=by
 show IntKind.u32.wrap ((BitVec.ofInt 32 x|||BitVec.ofInt 32 y).toNat:Nat)=_;have h:x|||y<2^32:=Nat.or_lt_two_pow hx hy
 have e:(BitVec.ofInt 32 x|||BitVec.ofInt 32 y).toNat=x|||y:=by
  rw[BitVec.toNat_or,K3,K3];congr 1
  ·omega
  omega
 rw[e,zjZ];omega
def zDx{c x s p:Nat}(hp:p<32)(hs:2^p=s)(hc:c<s):c|||(x*s%4294967296)=c+x*s%4294967296/\c+x*s%4294967296<4294967296:=by
 have h32:4294967296=s*2^(32-p):=by rw[←hs,←Ke,show p+(32-p)=32 by omega]
 have hm:x*s%4294967296=s*(x%2^(32-p)):=by rw[h32,Ks x s,Nat.mul_mod_mul_left]
 have hlt:x%2^(32-p)<2^(32-p):=Kk _ (KW dC);have h1:=K6 (i:=p) (b:=c) (by rw[hs];exact hc) (x%2^(32-p));rw[hs]at h1;rw[hm,Nat.or_comm,←h1]
 have h2:s*(x%2^(32-p))+s<=s*2^(32-p):=by
  rw[←YA];exact Kf _ hlt
 rw[←h32]at h2;exact⟨oM,oM⟩
def zAI{y:Nat}(hx:x<4294967296)(hy:y<4294967296)(he:e=(y:Int)*2^32):vh .or .u64 x e=((y*4294967296+x:Nat):Int):=by
 have h1:e=((y*4294967296:Nat):Int):=by rw[he];simp only[Int.reducePow];omega
 rw[h1,zj1 oM oM,Nat.or_comm];have:=K6 (i:=32) (b:=x) (by rw[show 2^32=4294967296 by decide];exact hx) y;rw[show 2^32=4294967296 by decide,Ks]at this;rw[←this]
def zxJ{p w s v lo hi o o1 o2 q:Nat}(h:o=w*(s*v))(h1:o1+p*w*q=o+p*w*(q+lo))(h2:o2=o1+p*w*4294967296*hi)(e:4294967296*hi+lo=x*s):o2=w*(s*(v+p*x)):=by
 subst h2;subst h
 have:o1=w*(s*v)+p*w*lo:=by
  rw[KE (p*w) q lo]at h1;omega
 subst this
 grind
def zxK(a0:LB)(n:Nat)(ha:a0.length<=800000000)(hn:n<=4096):
  CX 467 [.sl dgE a0,i64 n] (.full dgE (zm (val a0*2^n))):=by
 refine zc func467<|wg (jv a0 oM) ?_;have la:=zJ a0;have va:=zo (val a0);generalize zm (val a0)=a at*;rw[←va];clear va;have hs0:2^(n%32)<=2^31:=XH dC oM;have hs1:0<2^(n%32):=KW dC;generalize hs:2^(n%32)=s at*;refine⟨λh=>by omega,λh=>?_⟩;have em:zbL (n:Int) [4096]=n:=by simp only[zbL];omega
 change Dv _ _ _ _;rw[em];refine Dv.pos ⟨oM,oM,by show _<=(9223372036854775807:Int);omega⟩<|Dv.pos ⟨oM,oM⟩ λhl7=>?_;(iterate 2 refine wa ?_);refine⟨Dig,dgE,0,rfl,wb7 ?_⟩;intro hl8
 refine⟨Nat×LB,λ⟨i,out⟩=>⟨[(76,i64 i),(75,i64 a.length),(74,.sl dgE a),(9,i64 (n/32:Nat)),(10,i64 (n%32:Nat)),(11,.own 0)],[(0,qr out)],1,107,0⟩,
  λq=>q.1<=a.length/\q.2.length=a.length+n/32+1/\(∀j,q.1+n/32<j->dig q.2 j=0)/\dig q.2 (q.1+n/32)<s/\val q.2=4294967296^(n/32)*(s*val (a.take q.1)),λq=>a.length-q.1,(0,List.replicate (a.length+n/32+1) 0),?_,?_,?_⟩
 ·refine⟨Xh _,sI,λj _=>yN _ _,by dsimp only;rw[yN];exact hs1,by simp[zaT,val]⟩
 ·exact zS [0] ⟨rfl,rfl,rfl,iR oM,iR oM,rfl,tV⟩ ⟨Xg (λn=>some (qr (List.replicate n 0))) oM,tV⟩
 rintro⟨i,out⟩ ⟨h1,h2,h3,h4,h5⟩
 dsimp only at h1 h2 h3 h4 h5;refine⟨λh9=>?_,λh9=>?_⟩
 ·refine wb λx(hx:a[i]?=some x)=>?_;have dx:=zV hx;have hxl:=x.isLt;refine wa<|wb12 ?_;have hm:x.val*s<=4294967295*2^31:=Qs oM hs0
  have hm2:(x.val:Int)*2^((n%32:Nat):Int).toNat=((x.val*s:Nat):Int):=by
   rw[←hs,XT];simp
  have hm3:x.val*s<4294967296*s:=KK hxl hs1;refine Ar.fit (by rw[hm2];omega) ?_;rw[hm2];refine wa<|wb<|wb λc hc=>?_;rw[show((i:Int)+(n/32:Nat)).toNat=i+n/32 by omega]at hc;have dc:=zV hc;have hcl:=c.isLt;rw[dc]at h4;obtain⟨o1,o2⟩:=zDx (c:=c.val) (x:=x.val) (s:=s) (p:=n%32) oM hs h4;refine Ar.wrap ?_;have ew:IntKind.u32.wrap ((x.val*s:Nat):Int)=((x.val*s%4294967296:Nat):Int):=by rw[zjZ];omega
  rw[ew];refine⟨_,(or32 hcl (Kk _ dC)).symm,?_⟩;rw[o1];refine wb<|wb λz hz=>?_;refine⟨dof (c.val+x.val*s%4294967296),Xg (λn=>[u32 n]) (by rw[ky,Xy o2]),?_⟩;(iterate 2 refine wa ?_);refine wb1<|Ar.wrap<|Ob.mk (by rw[XV];omega)<|Ob.mk (by rw[XV];omega) λz2 hz2=>?_;have hhi:x.val*s/4294967296<s:=by rw[XS dC];omega
  refine⟨dof (x.val*s/4294967296),Xg (λn=>[u32 n]) (zbc (by simp only[Int.reducePow];omega)),?_⟩;refine wa ?_;have ei:((i:Int)+(n/32:Nat)).toNat=i+n/32:=oM;have ei1:((i:Int)+(n/32:Nat)+1).toNat=i+n/32+1:=oM
  refine⟨(i+1,(out.set (i+n/32) (dof (c.val+x.val*s%4294967296))).set (i+n/32+1) (dof (x.val*s/4294967296))),⟨oN,by simp[h2],λj hj=>?_,?_,?_⟩,
   zu [0] ⟨Xg (λl=>some (qr l)) (by rw[ei,ei1]),tV⟩,oN⟩
  ·dsimp only at hj ⊢;rw[jR,Xc oM,jR,Xc oM];exact h3 j oM
  ·dsimp only;rw[show i+1+n/32=i+n/32+1 by omega,jR,Xe ⟨rfl,by rw[XV];omega⟩,ky,Xy oM];exact hhi
  dsimp only;have s1:=v6 out (i+n/32) (dof (c.val+x.val*s%4294967296)) oM;have s2:=v6 (out.set (i+n/32) (dof (c.val+x.val*s%4294967296))) (i+n/32+1) (dof (x.val*s/4294967296)) (by rw[XV];omega);rw[ky,Xy o2,dc,Ke]at s1;have hmm:x.val*s/4294967296%4294967296=x.val*s/4294967296:=Xy oM;rw[jR,Xc oM,h3 _ oM,Ko,XP,ky,hmm,XU,Ke]at s2;rw[zR,dx];exact zxJ h5 s1 s2 (X8 _ _)
 have hi:i=a.length:=by omega
 subst hi;rw[kT (Xk _),←hs,zbb,←KC,←Ke,show 32*(n/32)+n%32=n by omega,Ks]at h5;refine zb.see 0 _ (zob out oM) rfl rfl rfl ?_;rw[h5];exact .refl
def n_shr(a0:LB)(n:Nat)(ha:a0.length<=800000000)(hn:n<=1000000000000)(hn0:n≠0):
  CX 467 [.sl dgE a0,i64 (-(n:Int))] (.full dgE (zm (val a0/2^n))):=by
 refine zc func467<|wg (jv a0 oM) ?_;have la:=zJ a0;have va:=zo (val a0);generalize zm (val a0)=a at*;rw[←va];clear va;refine⟨λh=>?_,λh=>by omega⟩;intro hl2;refine wa<|Br.mk (λh3=>?_) (λh3=>?_)
 ·have e:val a/2^n=0:=by
   refine Kh (Xw (q9 a) ?_);rw[zbb];exact XH dC oM
  rw[e,jZ];exact zp0
 refine wa<|Dv.pos ⟨oM,oM,by show _<=(9223372036854775807:Int);omega⟩<|wa<|Dv.pos ⟨oM,oM⟩ λhl4=>wa<|⟨Dig,dgE,0,rfl,wb7 ?_⟩;intro hl5
 refine⟨Nat×LB,λ⟨i,out⟩=>⟨[(37,i64 i),(36,i64 (a.length-n/32:Nat)),(0,.sl dgE a),(5,i64 (n/32:Nat)),(6,i64 (n%32:Nat)),(7,.own 0)],[(0,qr out)],1,107,0⟩,
  λq=>q.1<=a.length-n/32/\q.2.length=a.length-n/32/\∀j,j<q.1->dig q.2 j=val a/2^n/4294967296^j%4294967296,λq=>a.length-n/32-q.1,(0,List.replicate (a.length-n/32) 0),?_,?_,?_⟩
 ·exact⟨Xh _,sI,λj h=>by dsimp only at h;omega⟩
 ·exact zS [0] ⟨rfl,iR (by simp;omega),rfl,iR oM,iR oM,rfl,tV⟩ ⟨Xg (λn=>some (qr (List.replicate n 0))) oM,tV⟩
 rintro⟨i,out⟩ ⟨g1,g2,g3⟩
 dsimp only at g1 g2 g3;refine⟨λh6=>?_,λh6=>?_⟩
 ·have d1:=yS a (n/32+i);have d2:=yS a (n/32+i+1);refine wa<|wg (zev a _ oM) ?_;rw[show((i:Int)+(n/32:Nat)).toNat=n/32+i by omega];(iterate 2 refine wa ?_);refine wg (zev a _ oM) ?_;rw[show((i:Int)+(n/32:Nat)+1).toNat=n/32+i+1 by omega];refine wb1<|Ar.fit (by simp only[Int.reducePow];omega)<|⟨_,(zAI d1 d2 rfl).symm,?_⟩;refine wb12<|Ar.wrap<|wb<|wb λz hz=>?_
  refine⟨dof ((dig a (n/32+i+1)*4294967296+dig a (n/32+i))/2^(n%32)),Xg (λn=>[u32 n]) (zbc (by rw[XT];simp)),?_⟩;refine wa ?_
  refine⟨(i+1,out.set i (dof ((dig a (n/32+i+1)*4294967296+dig a (n/32+i))/2^(n%32)))),⟨oN,by simp[g2],λj hj=>?_⟩,
   zf [0],oN⟩
  dsimp only at hj ⊢
  by_cases e:i=j
  ·subst e;rw[jR,Xe ⟨rfl,oM⟩,ky];have:=ztt a (n/32) (n%32) i oM;rw[show 32*(n/32)+n%32=n by omega]at this;rw[this]
  rw[jR,Xc (λh=>e h.1)];exact g3 j oM
 have hi:i=a.length-n/32:=by omega
 have e:val out=val a/2^n:=by
  rw[zdB (λj hj=>g3 j oM),Xy];rw[XS (KW dC)];refine Xw (q9 a) ?_;rw[zbb,zbb,←Ke];exact XH dC oM
 refine zb.see 0 _ (zob out oM) rfl rfl rfl ?_;rw[e];exact .refl
def zkl{s:ByteArray}{b:UInt8}(hb:s[i]?=some b)(hi:i<s.size)(key:∀h:i<s.size,(s[i]'h).toNat=bitLen i):b.toNat=kA i:=by
 have e:=getElem?_pos s i hi;rw[hb]at e;rw[Xm e];exact key hi
def zdN{x:Nat}(b:Nat)(h:2^b<=x):kA x=b+kA (x/2^b):=
 bitLen_shift x b (Nat.ne_of_gt (Nat.div_pos h (KW dC)))
def ztP(x:Nat)(hx:x<4294967296):CX 149 [u32 x] (i64 (kA x)):=by
 refine zc func149 ?_;have fin:∀(y:Nat) (k:Int),y<256->(kA x:Int)=k+kA y->∀b:UInt8,b.toNat=kA y->(k+(b.toNat:Int))=kA x:=λy k _ h b hb=>by rw[h,hb]
 have small:∀y:Nat,y<256->kA y<=8:=λy hy=>bitLen_le8 y hy
 refine⟨λh1=>?_,λh1=>?_⟩
 ·refine wb1 ?_;have e1:(x:Int)/2^16=((x/65536:Nat):Int):=by simp
  rw[e1];have n1:=zdN (x:=x) 16 oM;rw[show(2:Nat)^16=65536 by decide]at n1;have hx1:x/65536<65536:=oM;generalize x/65536=y at*;refine⟨λh2=>?_,λh2=>?_⟩
  ·refine wb1 ?_;have e2:(y:Int)/2^8=((y/256:Nat):Int):=by simp
   rw[e2];have n2:=zdN (x:=y) 8 oM;rw[show(2:Nat)^8=256 by decide]at n2;have hy1:y/256<256:=oM;generalize y/256=z at*;(iterate 2 refine wa ?_);refine wb10 λb hb=>?_;have hb':b.toNat=kA z:=zkl hb (by show z<256;exact hy1) (λh=>len8tab_get z h);have:=small z hy1;(iterate 2 refine wa ?_);exact ze oM
  have hy1:y<256:=by omega
  refine wa<|wb10 λb hb=>?_;have hb':b.toNat=kA y:=zkl hb (by show y<256;exact hy1) (λh=>len8tab_get y h);have:=small y hy1;(iterate 2 refine wa ?_);exact ze oM
 refine⟨λh2=>?_,λh2=>?_⟩
 ·refine wb1 ?_;have e2:(x:Int)/2^8=((x/256:Nat):Int):=by simp
  rw[e2];have n2:=zdN (x:=x) 8 oM;rw[show(2:Nat)^8=256 by decide]at n2;have hy1:x/256<256:=oM;generalize x/256=z at*;(iterate 2 refine wa ?_);refine wb10 λb hb=>?_;have hb':b.toNat=kA z:=zkl hb (by show z<256;exact hy1) (λh=>len8tab_get z h);have:=small z hy1;(iterate 2 refine wa ?_);exact ze oM
 have hy1:x<256:=by omega
 refine wa<|wb10 λb hb=>?_;have hb':b.toNat=kA x:=zkl hb (by show x<256;exact hy1) (λh=>len8tab_get x h);have:=small x hy1;(iterate 2 refine wa ?_);exact ze oM
def zod(hx:x<4294967296):kA x<=32:=by
 by_cases h:x=0
 ·subst h;decide
 have:=zbX h;have:=(QD (by decide:1<2)).1 (K4 this (show x<2^32 from hx));omega
def zDy(x:Nat)(hx:x<4294967296):CX 466 [u32 x] (i64 (32-kA x:Nat)):=by
 refine zc func466<|wg (ztP x hx) ?_;have:=zod hx;exact wa<|ze oM
def zp1(a:LB)(ha:a.length<=900000000):CX 382 [.sl dgE a] (i64 (kA (val a))):=by
 refine zc func382<|wg (jv _ oM) λhl=>?_;have hlen:=zJ a;refine⟨λh=>?_,λh=>?_⟩
 ·have:zm (val a)=[]:=XM.1 oM;exact ze (by rw[yF.1 this];rfl)
 have hne:zm (val a)≠[]:=λe=>h (by rw[e];rfl)
 have hn:=(vM (val a)).resolve_left hne;have htop:=zbZ hn;rw[zo]at htop;intro hl2;(iterate 2 refine wa ?_);intro hl3;refine wa<|wb λx hx=>?_;rw[show(((zm (val a)).length:Int)-1).toNat=(zm (val a)).length-1 by omega]at hx;have dx:=zV hx;have hxl:=x.isLt;refine wg (ztP x.val hxl) ?_;rw[dx]at htop;have:=zod hxl;exact wa<|ze oM
def zDz(a:LB)(n:Nat)(ha:a.length<=800000000)(hn:n<=1000000000000):
  CX 467 [.sl dgE a,i64 (-(n:Int))] (.sl dgE (zm (val a/2^n))):=by
 by_cases h:n=0
 ·subst h;have:=(zxK a 0 ha oM).le (zcC rfl);rw[Jj,Jb]at this;rw[Jj,Nat.div_one];exact this
 exact(n_shr a n ha hn h).le (zcC rfl)
def zDA(a:LB)(n:Nat)(ha:a.length<=800000000)(hn:n<=4096):
  CX 467 [.sl dgE a,i64 n] (.sl dgE (zm (val a*2^n))):=(zxK a n ha hn).le (zcC rfl)
end Go.Gs
