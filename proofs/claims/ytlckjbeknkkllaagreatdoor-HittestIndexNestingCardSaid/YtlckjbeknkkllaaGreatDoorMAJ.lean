/- Knuth's estimate of a quotient's digit. -/
import Derived.Test.YtlckjbeknkkllaaGreatDoorMAI
import Derived.Laws.MathBits
set_option maxRecDepth 100000
set_option maxHeartbeats 8000000
set_option linter.all false
namespace Go.Gs
open Proofs.Tryz
def zoY(xs:LA)(n:Nat)(h:xs.length=n+2):∃r,r<4294967296^n/\val xs=(dig xs (n+1)*4294967296+dig xs n)*4294967296^n+r:=by
 refine⟨val (xs.take n),ja xs n,?_⟩;have e1:=kw xs n;have e2:=zu xs n;have e3:=zu xs (n+1);rw[zX (show xs.length<=n+1+1 by omega),Ks,XU]at e3;rw[e3]at e2;rw[e1,e2];generalize dig xs (n+1)=a;generalize dig xs n=b;generalize 4294967296^n=p
 grind
def zoZ{P v1 v2 rv top u2 ru q r:Nat}(hrv:rv<P)(hru:ru<P)(hv1:2147483648<=v1)(hv2:v2<4294967296)(e:q*v1+r=top)(hq:q<=4294967296)(hle:q*v2<=r*4294967296+u2)(hQ:((top*4294967296+u2)*P+ru)/((v1*4294967296+v2)*P+rv)<=q):
  q=((top*4294967296+u2)*P+ru)/((v1*4294967296+v2)*P+rv)∨q=((top*4294967296+u2)*P+ru)/((v1*4294967296+v2)*P+rv)+1:=by
 have hP:0<P:=oM
 have hV:0<(v1*4294967296+v2)*P+rv:=by
  have:0<(v1*4294967296+v2)*P:=Nat.mul_pos oM hP;omega
 have key:(q-1)*((v1*4294967296+v2)*P+rv)<=(top*4294967296+u2)*P+ru:=by
  rcases Kx q with h0|h0
  ·subst h0;simp
  obtain⟨p,rfl⟩:∃p,q=p+1:=⟨q-1,oM⟩;rw[Qy]
  have h1:p*((v1*4294967296+v2)*P+rv)<=p*((v1*4294967296+v2+1)*P):=by
   refine Kh _ ?_;rw[X6 _ 1 P];omega
  have h2:p*(v1*4294967296+v2+1)<=top*4294967296+u2:=by
   have a1:(p+1)*v1=p*v1+v1:=by rw[X6];omega
   have a2:(p+1)*v2=p*v2+v2:=by rw[X6];omega
   have a3:p*(v1*4294967296+v2+1)=(p*v1)*4294967296+p*v2+p:=by
    rw[KN,KN,KR];omega
   rw[a1]at e;rw[a2]at hle;rw[a3];omega
  have h3:p*((v1*4294967296+v2+1)*P)<=(top*4294967296+u2)*P:=by
   rw[←KR];exact Xs _ h2
  omega
 have:=(Jy hV).2 key;omega
def zu1{P v1 v2 rv top u2 ru q r:Nat}(hru:ru<P)(e:q*v1+r=top)(hgt:r*4294967296+u2<q*v2):
  ((top*4294967296+u2)*P+ru)/((v1*4294967296+v2)*P+rv)<q:=by
 have hP:0<P:=oM
 have hq:0<q:=by
  rcases Kx q with h|h
  ·subst h;omega
  exact h
 have h1:top*4294967296+u2+1<=q*(v1*4294967296+v2):=by
  have a3:q*(v1*4294967296+v2)=(q*v1)*4294967296+q*v2:=by rw[KN,KR]
  rw[a3];omega
 have h2:(top*4294967296+u2)*P+ru<q*((v1*4294967296+v2)*P+rv):=by
  have a1:(top*4294967296+u2+1)*P<=q*(v1*4294967296+v2)*P:=Xs _ h1
  have a2:q*(v1*4294967296+v2)*P<=q*((v1*4294967296+v2)*P+rv):=by
   rw[KR];exact Kh _ (JC _ _)
  rw[X6 _ 1 P]at a1;omega
 have hV:0<(v1*4294967296+v2)*P+rv:=by
  rcases Kx ((v1*4294967296+v2)*P+rv) with h|h
  ·rw[h]at h2;omega
  exact h
 exact(XZ hV).2 h2
def zu2{p q c b ui y lo c' ui' b' U V R:Nat}(h:R+q*V=U+p*(c+b))(hl:lo+4294967296*c'=c+q*y)(hu:ui'+lo+b=ui+4294967296*b'):
  R+p*ui'+q*(V+p*y)=U+p*ui+p*4294967296*(c'+b'):=by
 have e1:ui'+(c+q*y)+b=ui+4294967296*(c'+b'):=oM;have e2:p*(ui'+(c+q*y)+b)=p*(ui+4294967296*(c'+b')):=by rw[e1]
 grind
open Go.Proofs
def n_mul(a0 b0:LA)(ha:a0.length<=400000000)(hb:b0.length<=400000000):
  CX 457 [.sl dgE a0,.sl dgE b0] (.sl dgE (zj (val a0*val b0))):=by
 refine zd func457<|wg (qT a0 oM)<|wg (qT b0 oM) ?_;have la:=zD a0;have lb:=zD b0;have va:=zk (val a0);have vb:=zk (val b0);generalize zj (val a0)=a at*;generalize zj (val b0)=b at*;rw[←va,←vb];clear va vb;intro hl1 hl2;refine wa<|⟨Dig,dgE,0,rfl,wb5 ?_⟩;intro hl3
 refine⟨Nat×LA,λ⟨i,out⟩=>⟨[(23,i64 i),(22,i64 a.length),(21,.sl dgE a),(5,.own 0),(1,.sl dgE b)],[(0,kY out)],1,73,0⟩,
  λq=>q.1<=a.length/\q.2.length=a.length+b.length/\val q.2=val (a.take q.1)*val b/\∀j,q.1+b.length<=j->dig q.2 j=0,λq=>a.length-q.1,(0,List.replicate (a.length+b.length) 0),?_,?_,?_⟩
 ·exact⟨Xg _,sI,by simp[zac,val],λj _=>jZ _ _⟩
 ·exact zt [0] ⟨Xj (λn=>some (kY (List.replicate n 0))) oM,tV⟩
 rintro⟨i,out0⟩ ⟨h1,h2,h3,h4⟩
 dsimp only at h1 h2 h3 h4;refine⟨λh5=>?_,λh5=>?_⟩
 ·refine wb λx(hx:a[i]?=some x)=>?_;have dx:=zR hx;have hxl:=x.isLt;refine⟨λh6=>?_,λh6=>?_⟩
  ·refine wa<|⟨(i+1,out0),⟨oN,h2,?_,λj hj=>h4 j (by dsimp only at hj;omega)⟩,zi [0],oN⟩;dsimp only;rw[zP,dx,show x.val=0 by omega,Ks,XU];exact h3
  intro hl6
  refine⟨Nat×LA×Nat,λ⟨k,out,c⟩=>⟨[(32,i64 k),(31,i64 b.length),(30,.sl dgE b),(8,u64 c),(7,u32 x.val),(6,i64 i),(23,i64 i),(22,i64 a.length),(21,.sl dgE a),(5,.own 0),(1,.sl dgE b)],[(0,kY out)],1,73,0⟩,
   λq=>q.1<=b.length/\q.2.1.length=a.length+b.length/\q.2.2<4294967296/\val q.2.1+4294967296^(i+q.1)*q.2.2=val out0+4294967296^i*(x.val*val (b.take q.1))/\∀j,i+b.length<=j->dig q.2.1 j=0,λq=>b.length-q.1,(0,out0,0),?_,?_,?_⟩
  ·exact⟨Xg _,h2,oN,by simp[val],h4⟩
  ·exact zi [0]
  rintro⟨k,out,c⟩ ⟨g1,g2,g3,g4,g5⟩
  dsimp only at g1 g2 g3 g4 g5;refine⟨λg6=>?_,λg6=>?_⟩
  ·refine wb λy(hy:b[k]?=some y)=>?_;have dy:=zR hy;have hyl:=y.isLt;have hm0:=zdL hxl hyl;(iterate 4 refine wa ?_);refine wb<|wb λz hz=>?_;rw[show((i:Int)+k).toNat=i+k by omega]at hz;have dz:=zR hz;have hzl:=z.isLt;(iterate 4 refine wa ?_);refine Ar.wrap<|wb<|wb λz' hz'=>?_;refine⟨dof (x.val*y.val+z.val+c),Xj (λn=>[u32 n]) (zay oM),?_⟩;refine wb1<|wa ?_
   refine⟨(k+1,out.set (i+k) (dof (x.val*y.val+z.val+c)),(x.val*y.val+z.val+c)/4294967296),⟨oN,by simp[g2],oN,?_,?_⟩,
    ku [0] ⟨rfl,rfl,rfl,Xj (λn=>some (u64 n)) (by simp only[Int.reducePow];omega),rfl,rfl,rfl,rfl,rfl,rfl,rfl,tV⟩ ⟨Xj (λn=>some (kY (out.set n _))) oM,tV⟩,oN⟩
   ·dsimp only;have hs:=vu out (i+k) (dof (x.val*y.val+z.val+c)) oM;rw[z3,dz]at hs;rw[zP,dy,←KE i k 1,X0];have e:=Ka (x.val*y.val+z.val+c) 4294967296;rw[Kd]at g4 hs ⊢;exact zoW g4 hs e
   intro j hj;dsimp only;rw[jk,Xb oM];exact g5 j hj
  have hk:k=b.length:=by omega
  intro hl8;refine wa<|Ar.wrap<|wb<|wb λz' hz'=>?_;refine⟨dof c,Xj (λn=>[u32 n]) (zay rfl),?_⟩;refine wa ?_
  refine⟨(i+1,out.set (i+b.length) (dof c)),⟨oN,by simp[g2],?_,?_⟩,
   zt [0] ⟨Xj (λn=>some (kY (out.set n _))) oM,tV⟩,oN⟩
  ·dsimp only;have hs:=vu out (i+b.length) (dof c) oM;rw[z3,g5 _ (Xi _),Xw g3]at hs;rw[hk,kJ (Xi _),h3]at g4;rw[zP,dx];generalize val (out.set (i+b.length) _)=r at*;generalize 4294967296^i=p at*;generalize 4294967296^(i+b.length)=q at*;generalize val (a.take i)=w at*;generalize x.val=x at*;generalize val out=o at*;clear h4 g5
   grind
  intro j hj;dsimp only;rw[jk,Xb oM];exact g5 j oM
 have hi:i=a.length:=by omega
 rw[hi,kJ (Xi _)]at h3;refine zb.see 0 _ (qT out0 oM) rfl rfl rfl ?_;rw[h3];exact .refl
def zfI{x y:Nat}{e:Int}(hx:x<4294967296)(hy:y<4294967296)(he:e=(x:Int)*2^32):uX .or .u64 e y=((x*4294967296+y:Nat):Int):=by
 have h1:e=((x*4294967296:Nat):Int):=by rw[he];simp only[Int.reducePow];omega
 rw[h1,zrv oM oM];have:=Qx (i:=32) (b:=y) (by rw[show 2^32=4294967296 by decide];exact hy) x;rw[show 2^32=4294967296 by decide,Ky]at this;rw[←this]
def n_one(a:LA)(d:Nat)(ha:a.length<=900000000)(hd:d<4294967296)(h0:d≠0):
  CX 476 [.sl dgE a,u32 d] (.tup [.sl dgE (zj (val a/d)),u32 (val a%d:Nat)]):=by
 refine zd func476 λhl1=>?_;refine⟨Dig,dgE,0,rfl,wb5 ?_⟩;intro hl2;refine wa ?_
 refine⟨Nat×LA×Nat,λ⟨j,out,r⟩=>⟨[(8,i64 ((j:Int)-1)),(7,u64 r),(6,.own 0),(0,.sl dgE a),(1,u32 d)],[(0,kY out)],1,43,0⟩,
  λq=>q.1<=a.length/\q.2.1.length=a.length/\q.2.2<d/\val (a.drop q.1)=d*val (q.2.1.drop q.1)+q.2.2,λq=>q.1,(a.length,List.replicate a.length 0,0),?_,?_,?_⟩
 ·refine⟨Xi _,sI,oN,?_⟩;dsimp only;rw[zX (Xi _),zX sI,Ks]
 ·exact zt [0] ⟨Xj (λn=>some (kY (List.replicate n 0))) oM,tV⟩
 rintro⟨j,out,r⟩ ⟨h1,h2,h3,h4⟩
 dsimp only at h1 h2 h3 h4;refine⟨λh5=>?_,λh5=>?_⟩
 ·refine wb1<|Ar.fit (by simp only[Int.reducePow];omega)<|wb λx hx=>?_;rw[show((j:Int)-1).toNat=j-1 by omega]at hx;have dx:=zR hx;have hxl:=x.isLt;refine wa<|⟨_,(zfI oM hxl rfl).symm,?_⟩
  have hq:(r*4294967296+x.val)/d<4294967296:=by
   rw[XZ oM];have:r*4294967296+4294967296<=4294967296*d:=oM;omega
  have hm:(r*4294967296+x.val)%d<d:=Kr _ oM;have hdm:=Ka (r*4294967296+x.val) d;refine wa<|Dv.pos ⟨oM,oM,by show _<=(18446744073709551615:Int);omega⟩ ?_;have e1:((r*4294967296+x.val:Nat):Int)/(d:Int)=(((r*4294967296+x.val)/d:Nat):Int):=by simp
  have e2:((r*4294967296+x.val:Nat):Int)%(d:Int)=(((r*4294967296+x.val)%d:Nat):Int):=by simp
  rw[e1];generalize (r*4294967296+x.val)/d=qd at*;refine wa<|wb<|wb λz hz=>?_;refine⟨dof qd,Xj (λn=>[u32 n]) (by rw[z3,Xw hq]),?_⟩;refine wa<|Dv.pos ⟨oM,oM⟩ ?_;rw[e2];generalize (r*4294967296+x.val)%d=rd at*;refine wa ?_
  refine⟨(j-1,out.set (j-1) (dof qd),rd),⟨oN,by simp[h2],hm,?_⟩,
   ku [0] ⟨iR oM,rfl,rfl,rfl,rfl,tV⟩ ⟨Xj (λn=>some (kY (out.set n _))) oM,tV⟩,oN⟩
  dsimp only;rw[zu a,dx,show j-1+1=j by omega];refine zoX h4 oM hdm ?_;rw[zbe oM,z3,Xw hq,show j-1+1=j by omega]
 have hj:j=0:=by omega
 subst hj;rw[K7,K7]at h4
 have e1:val out=val a/d:=by
  rw[h4,QD oM,KK h3,XU]
 have e2:r=val a%d:=by
  rw[h4,QE,Xw h3]
 refine zb.see 0 _ (qT out oM) rfl rfl rfl<|wa ?_;rw[e1];exact zW .refl (zh (by rw[e2]))
def zhz(v1 v2 u2 top:Nat):Nat->Nat->Nat
 |0,q=>q
 |f+1,q=>if 4294967296<=q∨(top-q*v1)*4294967296+u2<q*v2 then(if 4294967296<=top-(q-1)*v1 then q-1 else zhz v1 v2 u2 top f (q-1)) else q
def zo0{P v1 v2 rv top u2 ru Q:Nat}(hrv:rv<P)(hru:ru<P)(hv1:2147483648<=v1)(hv2:v2<4294967296)(hQd:((top*4294967296+u2)*P+ru)/((v1*4294967296+v2)*P+rv)=Q)(hQ:Q<4294967296):∀(f q:Nat),q<f->q<=4294967297->q*v1<=top->Q<=q->
   zhz v1 v2 u2 top f q=Q∨zhz v1 v2 u2 top f q=Q+1
 |0,q,h,_,_,_=>oM
 |f+1,q,h,hq,hle,hge=>by
  unfold zhz;have hr:q*v1+(top-q*v1)=top:=oM
  by_cases hc:4294967296<=q∨(top-q*v1)*4294967296+u2<q*v2
  ·rw[Xe hc]
   have hlt:Q<q:=by
    rcases hc with hc|hc
    ·omega
    rw[←hQd];exact zu1 hru hr hc
   have hq1:(q-1)*v1+v1=q*v1:=by
    have:q=(q-1)+1:=oM;rw[this,X6];simp
   by_cases hb:4294967296<=top-(q-1)*v1
   ·rw[Xe hb];have h1:(q-1)*v2<=4294967296*4294967295:=QK oM oM;have:=zoZ hrv hru hv1 hv2 (q:=q-1) (r:=top-(q-1)*v1) (top:=top) (u2:=u2) oM oM oM (by rw[hQd];omega)
    rwa [hQd]at this
   rw[Xb hb];exact zo0 hrv hru hv1 hv2 hQd hQ f (q-1) oM oM oM oM
  rw[Xb hc];have:=zoZ hrv hru hv1 hv2 hr (u2:=u2) oM oM (by rw[hQd];exact hge)
  rwa [hQd]at this
def yS(U V:LA):Nat:=dig U V.length*4294967296+dig U (V.length-1)
def zgM(U V:LA):Nat:=zhz (dig V (V.length-1)) (dig V (V.length-2)) (dig U (V.length-2)) (yS U V) (yS U V/dig V (V.length-1)+1) (yS U V/dig V (V.length-1))
def zD2{U V:LA}(hU:U.length=V.length+1)(hn:2<=V.length)(hlt:val U<4294967296*val V):yS U V<(dig V (V.length-1)+1)*4294967296:=by
 obtain⟨n,hn'⟩:∃n,V.length=n+1:=⟨V.length-1,oM⟩;have e1:=kw U n;have e2:=zu U n;have e3:=zu U (n+1);rw[zX (show U.length<=n+1+1 by omega),Ks,XU]at e3;have f1:=kw V n;have f2:=zu V n;rw[zX (show V.length<=n+1 by omega),Ks,XU]at f2;have f3:=ja V n;unfold yS;rw[hn',Qy];rw[e3]at e2;rw[e2]at e1;rw[f2]at f1;have hp:=zcX n;generalize 4294967296^n=p at*;generalize dig U n=a at*;generalize dig U (n+1)=b at*;generalize dig V n=v at*
 have h1:p*(a+4294967296*b)<p*(4294967296*(v+1)):=by
  have h2:p*(4294967296*(v+1))=4294967296*(p*v+p):=by
   rw[Nat.mul_left_comm,KN p v 1,Jj]
  rw[h2];generalize p*(a+4294967296*b)=X at*;generalize p*v=Y at*;omega
 have:=J6 h1;omega
def zly{U V:LA}(hU:U.length=V.length+1)(hn:2<=V.length)(hv:2147483648<=dig V (V.length-1))(hlt:val U<4294967296*val V):
  (zgM U V=val U/val V∨zgM U V=val U/val V+1)/\val U/val V<=yS U V/dig V (V.length-1)/\yS U V/dig V (V.length-1)<=4294967297:=by
 have hest:=zxo (r:=U) (b:=V) oM hlt;have htop:=zD2 hU hn hlt
 have hVp:0<val V:=by
  rcases Kx (val V) with h|h
  ·rw[h]at hlt;omega
  exact h
 have hQ:val U/val V<4294967296:=(XZ hVp).2 hlt
 have hq1:yS U V/dig V (V.length-1)<=4294967297:=by
  have:yS U V/dig V (V.length-1)<4294967298:=by
   rw[XZ oM];omega
  omega
 refine⟨?_,hest,hq1⟩;obtain⟨n,hn'⟩:∃n,V.length=n+2:=⟨V.length-2,oM⟩;have e1:=kw U n;have e2:=zu U n;have e3:=zu U (n+1);have e4:=zu U (n+1+1);rw[zX (show U.length<=n+1+1+1 by omega),Ks,XU]at e4;have e5:=ja U n;obtain⟨rv,r1,r2⟩:=zoY V n hn'
 have eU:val U=(yS U V*4294967296+dig U (V.length-2))*4294967296^n+val (U.take n):=by
  unfold yS;rw[hn',show n+2-1=n+1 by omega,show n+2-2=n by omega,e1,e2,e3,e4];generalize 4294967296^n=p
  grind
 have eV:val V=(dig V (V.length-1)*4294967296+dig V (V.length-2))*4294967296^n+rv:=by
  rw[hn',show n+2-1=n+1 by omega,show n+2-2=n by omega];exact r2
 have key:=zo0 (P:=4294967296^n) (v1:=dig V (V.length-1)) (v2:=dig V (V.length-2)) (top:=yS U V) (u2:=dig U (V.length-2)) (Q:=val U/val V) r1 e5 hv (yb _ _) (by rw[←eU,←eV]) hQ
  (yS U V/dig V (V.length-1)+1) (yS U V/dig V (V.length-1)) oM hq1 (JR _ _) hest
 exact key
def zAZ(U V:LA)(hl:V.length<=900000000)(hU:U.length=V.length+1)(hn:2<=V.length)(hv:2147483648<=dig V (V.length-1))(hlt:val U<4294967296*val V):
  CX 479 [.sl dgE U,.sl dgE V] (u64 (zgM U V:Nat)):=by
 obtain⟨_,hQ,hq⟩:=zly hU hn hv hlt;have hG:zgM U V=zhz (dig V (V.length-1)) (dig V (V.length-2)) (dig U (V.length-2)) (yS U V) (yS U V/dig V (V.length-1)+1) (yS U V/dig V (V.length-1)):=rfl;refine zd func479 λhl1=>wc<|wb λx(hx:U[V.length]?=some x)=>?_;have dx:=zR hx;have hxl:=x.isLt;refine wa<|wb1<|Ar.fit (by simp only[Int.reducePow];omega)<|wa<|wb λy hy=>?_;rw[show((V.length:Int)-1).toNat=V.length-1 by omega]at hy;have dy:=zR hy
 have hyl:=y.isLt;refine wa<|⟨_,(zfI hxl hyl rfl).symm,?_⟩;have ht:yS U V=x.val*4294967296+y.val:=by unfold yS;rw[dx,dy]
 rw[←ht];have ht2:yS U V<18446744073709551616:=oM;generalize yS U V=T at*;refine wc<|wa<|wb λv1 hv1=>?_;rw[show((V.length:Int)-1).toNat=V.length-1 by omega]at hv1;have d1:=zR hv1;have h1l:=v1.isLt;rw[d1]at hv hQ hq hG;refine wa<|Dv.pos ⟨oM,oM,by show _<=(18446744073709551615:Int);omega⟩<|wa<|wb λv1' hv1'=>?_;rw[show((V.length:Int)-1).toNat=V.length-1 by omega,hv1]at hv1'
 cases hv1'
 refine wa<|Dv.pos ⟨oM,oM⟩ ?_;have hdm:=Ka T v1.val;have hml:T%v1.val<v1.val:=Kr _ oM
 refine⟨Nat×Nat×Nat,λ⟨f,q,r⟩=>⟨[(7,u64 q),(8,u64 r),(0,.sl dgE U),(1,.sl dgE V),(5,i64 V.length)],[],0,77,0⟩,
  λs=>s.2.1<s.1/\s.2.1<=4294967297/\s.2.2<4294967296/\s.2.1*v1.val+s.2.2=T/\zgM U V=zhz v1.val (dig V (V.length-2)) (dig U (V.length-2)) T s.1 s.2.1,λs=>s.1,
  (T/v1.val+1,T/v1.val,T%v1.val),?_,?_,?_⟩
 ·exact⟨oN,hq,oN,by dsimp only;rw[Ky];exact hdm,hG⟩
 ·exact qN [] ⟨Xj (λn=>some (u64 n)) sI,Xj (λn=>some (u64 n)) sI,rfl,rfl,rfl,tV⟩ trivial
 clear hG hQ hq hdm hml ht
 rintro⟨f,q,r⟩ ⟨g1,g2,g3,g4,g5⟩
 dsimp only at g1 g2 g3 g4 g5;obtain⟨f',rfl⟩:∃f',f=f'+1:=⟨f-1,oM⟩;unfold zhz at g5;have er:T-q*v1.val=r:=oM;rw[er]at g5
 have dec:1<=q->(q-1)*v1.val+v1.val=q*v1.val:=λh=>by
  have:q=(q-1)+1:=oM;rw[this,X6];simp
 refine wc<|wb1<|Br.mk (λk1=>?_) (λk1=>?_)
 ·have k1:4294967296<=q:=by simp only[Int.reducePow]at k1;omega
  rw[Xe (.inl k1)]at g5;have hd:=dec oM;have er2:T-(q-1)*v1.val=r+v1.val:=oM;rw[er2]at g5;(iterate 2 refine wa ?_);refine wb λz hz=>?_;rw[show((V.length:Int)-1).toNat=V.length-1 by omega,hv1]at hz
  cases hz
  (iterate 2 refine wa ?_);refine wb1<|Br.mk (λk3=>?_) (λk3=>?_)
  ·rw[Xe (by simp only[Int.reducePow]at k3;omega)]at g5;exact zh oM
  rw[Xb (by simp only[Int.reducePow]at k3;omega)]at g5
  exact⟨(f',q-1,r+v1.val),⟨oN,oN,by dsimp only;simp only[Int.reducePow]at k3;omega,oN,g5⟩,
   qN [] ⟨Xj (λn=>some (u64 n)) oM,rfl,rfl,rfl,rfl,tV⟩ trivial,oN⟩
 have k1:q<4294967296:=by simp only[Int.reducePow]at k1;omega
 refine wa<|wb λv2 hv2=>?_;rw[show((V.length:Int)-2).toNat=V.length-2 by omega]at hv2;have d2:=zR hv2;have h2l:=v2.isLt;have hm:=zdL k1 h2l;(iterate 2 refine wa ?_);refine wb1<|Ar.fit (by simp only[Int.reducePow];omega)<|wa<|wb λw hw=>?_;rw[show((V.length:Int)-2).toNat=V.length-2 by omega]at hw;have dw:=zR hw;have hwl:=w.isLt;refine wa<|⟨_,(zfI g3 hwl rfl).symm,?_⟩;rw[d2,dw]at g5;refine⟨λk2=>?_,λk2=>?_⟩
 ·have k2:r*4294967296+w.val<q*v2.val:=by
   rw[←Kb]at k2;omega
  have hq0:1<=q:=by
   rcases Kx q with h|h
   ·subst h;omega
   exact h
  rw[Xe (.inr k2)]at g5;have hd:=dec hq0;have er2:T-(q-1)*v1.val=r+v1.val:=oM;rw[er2]at g5;rw[←d2,←dw]at g5;(iterate 2 refine wa ?_);refine wb λz hz=>?_;rw[show((V.length:Int)-1).toNat=V.length-1 by omega,hv1]at hz
  cases hz
  (iterate 2 refine wa ?_);refine wb1<|Br.mk (λk3=>?_) (λk3=>?_)
  ·rw[Xe (by simp only[Int.reducePow]at k3;omega)]at g5;exact zh oM
  rw[Xb (by simp only[Int.reducePow]at k3;omega)]at g5
  exact⟨(f',q-1,r+v1.val),⟨oN,oN,by dsimp only;simp only[Int.reducePow]at k3;omega,oN,g5⟩,
   qN [] ⟨Xj (λn=>some (u64 n)) oM,rfl,rfl,rfl,rfl,tV⟩ trivial,oN⟩
 have k2:¬(4294967296<=q∨r*4294967296+w.val<q*v2.val):=by
  rw[←Kb]at k2;omega
 rw[Xb k2]at g5;exact zh (by rw[g5])
def jy(k n:Nat):LA:=(List.range k).map λi=>dof (n/4294967296^i)
def jM(k n:Nat):(jy k n).length=k:=by simp[jy]
def zxu{xs ys:LA}(hl:xs.length=ys.length)(h:∀i,i<xs.length->dig xs i=dig ys i):xs=ys:=by
 refine List.ext_getElem hl λi h1 h2=>Fin.ext ?_
 have:=h i h1
 rwa [zR (Xa h1),zR (Xa h2)]at this
def zs9(w:LA):jy w.length (val w)=w:=by
 refine zxu (jM _ _) λi hi=>?_
 rw[jM]at hi;rw[zAT w i];have:(jy w.length (val w))[i]?=some (dof (val w/4294967296^i)):=by simp[jy,hi]
 rw[zR this,z3]
def zta{k n:Nat}(h:n<4294967296^k):val (jy k n)=n:=by
 have:=zc0 (xs:=jy k n) (N:=n) (λj hj=>by
  rw[jM]at hj;have e:(jy k n)[j]?=some (dof (n/4294967296^j)):=by simp[jy,hj]
  rw[zR e,z3])
 rw[jM,Xw h]at this;exact this
def zid{pre w post:LA}{i:Nat}(h:i<w.length):(pre++(w++post))[pre.length+i]?=w[i]? :=by
 rw[XB oM,Yg,XH h]
def zie{pre w post:LA}{i:Nat}{d:Dig}(h:i<w.length):(pre++(w++post)).set (pre.length+i) d=pre++(w.set i d++post):=by
 rw[Yu _ _ oM,Yg,List.set_append_left _ _ h]
def zo1(W V:LA)(q:Nat):LA:=jy W.length (if val W<q*val V then val W+4294967296^W.length-q*val V else val W-q*val V)
def zD3{x:Nat}{e:Int}(h:e=x):uX .and .u64 e 4294967295=((x%4294967296:Nat):Int):=by rw[h];exact zs7 x
def zjg{u lo b:Nat}(hu:u<4294967296)(hl:lo<4294967296)(hb:b<=1):
  ((dof (8589934592+u-lo-b)).val:Int)=IntKind.u32.wrap (IntKind.u64.wrap (IntKind.u64.wrap ((u:Int)-lo)-b))/\
  IntKind.u64.wrap (IntKind.u64.wrap ((u:Int)-lo)-b)/2^63=(((if u<lo+b then 1 else 0:Nat)):Int)/\
  (8589934592+u-lo-b)%4294967296+lo+b=u+4294967296*(if u<lo+b then 1 else 0):=by
 rw[zja,jP,jP,z3];simp only[Int.reducePow];refine⟨oM,?_,?_⟩
 ·split <;> omega
 split <;> omega
def zD4(pre W post V:LA)(q:Nat)(hW:W.length=V.length+1)(hq:q<=4294967296):
  CG0 480 [.win 0 1 (pre.length:Int) (W.length:Int),.sl dgE V,u64 q] [(0,kY (pre++(W++post)))] (pr (val W<q*val V)) [(0,kY (pre++(zo1 W V q++post)))]:=by
 refine yA tok mix func480 rfl rfl rfl (qw _) rfl λhl0=>?_
 refine⟨Nat×LA×Nat×Nat,λ⟨i,w,c,b⟩=>⟨[(15,i64 i),(14,i64 V.length),(13,.sl dgE V),(7,u64 c),(8,u64 b),(0,.win 0 1 (pre.length:Int) (W.length:Int)),(1,.sl dgE V),(2,u64 q)],[(0,kY (pre++(w++post)))],1,65,1⟩,
  λs=>s.1<=V.length/\s.2.1.length=W.length/\s.2.2.1<4294967296/\s.2.2.2<=1/\(∀j,s.1<=j->dig s.2.1 j=dig W j)/\val (s.2.1.take s.1)+q*val (V.take s.1)=val (W.take s.1)+4294967296^s.1*(s.2.2.1+s.2.2.2),
  λs=>V.length-s.1,(0,W,0,0),?_,?_,?_⟩
 ·exact⟨Xg _,rfl,oN,Xg _,λ_ _=>rfl,by simp[val]⟩
 ·exact zi [0]
 rintro⟨i,w,c,b⟩ ⟨h1,h2,h3,h4,h5,h6⟩
 dsimp only at h1 h2 h3 h4 h5 h6;have hll:(pre++(w++post)).length=pre.length+W.length+post.length:=by simp[h2];omega
 refine⟨λk1=>?_,λk1=>?_⟩
 ·refine wb λy(hy:V[i]?=some y)=>?_;have dy:=zR hy;have hyl:=y.isLt;have hm:q*y.val<=4294967296*4294967295:=QK hq oM;refine wa<|Ar.fit (by rw[←Kb];omega)<|Ar.fit (by rw[←Kb];omega)<|wb4<|Ob.mk (by rw[hll];omega) λu hu=>?_;have hu:w[i]?=some u:=by rw[←zid (pre:=pre) (post:=post) oM,←hu];congr 1
  have du:=zR hu;have hul:=u.isLt;refine wa ?_;have ex:(c:Int)+(q:Int)*(y.val:Int)=((c+q*y.val:Nat):Int):=by simp
  refine⟨_,(zD3 ex).symm,?_⟩;rw[ex];generalize hX:c+q*y.val=X at*;obtain⟨t1,t2,t3⟩:=zjg (u:=u.val) (lo:=X%4294967296) (b:=b) hul (Kr _ dC) h4;refine Ar.wrap<|Ar.wrap<|Ar.wrap<|wb4<|Ob.mk (by rw[hll];omega) λz hz=>?_;refine⟨dof (8589934592+u.val-X%4294967296-b),Xj (λn=>[u32 n]) t1,?_⟩;refine wb1<|wb1<|wa ?_;generalize (if u.val<X%4294967296+b then 1 else 0)=b' at*;have hb':b'<=1:=oM
  refine⟨(i+1,w.set i (dof (8589934592+u.val-X%4294967296-b)),X/4294967296,b'),⟨oN,by simp[h2],oN,hb',λj hj=>?_,?_⟩,
   qa [(0,some 0)] rfl rfl rfl ⟨rfl,rfl,rfl,Xj (λn=>some (u64 n)) (by simp only[Int.reducePow];omega),Xj (λn=>some (u64 n)) t2,rfl,rfl,rfl,tV⟩
    ⟨Xj (λl=>some (kY l)) (by rw[←zie oM];congr 1),tV⟩,oN⟩
  ·dsimp only at hj ⊢;rw[jk,Xb oM];exact h5 j oM
  dsimp only;rw[zP,zP,zP,X0,dy,jk,Xe ⟨rfl,oM⟩,z3,←h5 i (Xi _),du];have ht:(w.set i (dof (8589934592+u.val-X%4294967296-b))).take i=w.take i:=by rw[Q7 oM]
  rw[ht];have hd:=Ka X 4294967296;exact zu2 h6 oM t3
 have hi:i=V.length:=by omega
 subst hi;intro hl9;refine wb4<|Ob.mk (by rw[hll];omega) λu hu=>?_;have hu:w[V.length]?=some u:=by rw[←zid (pre:=pre) (post:=post) oM,←hu];congr 1
 have du:=zR hu;have hul:=u.isLt;refine wa ?_;obtain⟨t1,t2,t3⟩:=zjg (u:=u.val) (lo:=c) (b:=b) hul h3 h4;refine Ar.wrap<|Ar.wrap λhl10=>Ar.wrap<|wb4<|Ob.mk (by rw[hll];omega) λz hz=>?_;refine⟨dof (8589934592+u.val-c-b),Xj (λn=>[u32 n]) t1,?_⟩;refine wb1 ?_
 have ev:val (w.set V.length (dof (8589934592+u.val-c-b)))+q*val V=val W+4294967296^W.length*(if u.val<c+b then 1 else 0):=by
  have e1:=vu w V.length (dof (8589934592+u.val-c-b)) oM;have e2:=kw w V.length;have e3:=zu w V.length;rw[zX (show w.length<=V.length+1 by omega),Ks,XU]at e3;rw[e3]at e2;have f2:=kw W V.length;have f3:=zu W V.length;rw[zX (show W.length<=V.length+1 by omega),Ks,XU]at f3;rw[f3]at f2;rw[kJ (Xi V.length)]at h6;rw[hW,X0,f2,←h5 _ (Xi _),du];rw[du]at e1 e2;rw[z3]at e1;generalize (if u.val<c+b then 1 else 0)=b' at*
  generalize (8589934592+u.val-c-b)%4294967296=u' at*;generalize 4294967296^V.length=p at*;have e4:p*(u'+c+b)=p*(u.val+4294967296*b'):=by rw[t3]
  generalize u.val=u at*;generalize val (w.take V.length)=wt at*;generalize val (W.take V.length)=Wt at*;generalize q*val V=qv at*;clear h5 t1 t2
  grind
 have hvl:=qG (w.set V.length (dof (8589934592+u.val-c-b)));rw[XP,h2]at hvl
 have hneg:(u.val<c+b)↔val W<q*val V:=by
  constructor
  ·intro h;rw[Xe h]at ev;omega
  intro h
  by_cases hh:u.val<c+b
  ·exact hh
  rw[Xb hh]at ev;omega
 have hfin:w.set V.length (dof (8589934592+u.val-c-b))=zo1 W V q:=by
  rw[←zs9 (w.set V.length (dof (8589934592+u.val-c-b)))];unfold zo1;rw[XP,h2];congr 1
  by_cases hh:val W<q*val V
  ·rw[Xe hh];rw[Xe (hneg.2 hh)]at ev;omega
  rw[Xb hh];rw[Xb (λh=>hh (hneg.1 h))]at ev;omega
 refine⟨Xj (λl=>some (kY l)) ?_,zr ?_⟩
 ·rw[←hfin,←zie oM];congr 1
 rw[t2,←hneg]
 by_cases hh:u.val<c+b
 ·simp[hh]
 simp[hh]
def zo2{α:Type}{enc:α->LQ}:LE nS (.full enc []):=λS Pm ρ w v hg=>by
 rw[hg.val_inv];exact .d _ _ (.full enc [] none (.nil enc none))
def or32{x y:Nat}(hx:x<4294967296)(hy:y<4294967296):uX .or .u32 x y=((x|||y:Nat):Int):=by
 show IntKind.u32.wrap ((BitVec.ofInt 32 x|||BitVec.ofInt 32 y).toNat:Nat)=_;have h:x|||y<2^32:=Nat.or_lt_two_pow hx hy
 have e:(BitVec.ofInt 32 x|||BitVec.ofInt 32 y).toNat=x|||y:=by
  rw[BitVec.toNat_or,Qb,Qb];congr 1
  ·omega
  omega
 rw[e,zja];omega
def zD5{c x s p:Nat}(hp:p<32)(hs:2^p=s)(hc:c<s):c|||(x*s%4294967296)=c+x*s%4294967296/\c+x*s%4294967296<4294967296:=by
 have h32:4294967296=s*2^(32-p):=by rw[←hs,←Kd,show p+(32-p)=32 by omega]
 have hm:x*s%4294967296=s*(x%2^(32-p)):=by rw[h32,Ky x s,Nat.mul_mod_mul_left]
 have hlt:x%2^(32-p)<2^(32-p):=Kr _ (Qc dC);have h1:=Qx (i:=p) (b:=c) (by rw[hs];exact hc) (x%2^(32-p));rw[hs]at h1;rw[hm,Nat.or_comm,←h1]
 have h2:s*(x%2^(32-p))+s<=s*2^(32-p):=by
  rw[←YL];exact Kh _ hlt
 rw[←h32]at h2;exact⟨oM,oM⟩
def zA0{x y:Nat}{e:Int}(hx:x<4294967296)(hy:y<4294967296)(he:e=(y:Int)*2^32):uX .or .u64 x e=((y*4294967296+x:Nat):Int):=by
 have h1:e=((y*4294967296:Nat):Int):=by rw[he];simp only[Int.reducePow];omega
 rw[h1,zrv oM oM,Nat.or_comm];have:=Qx (i:=32) (b:=x) (by rw[show 2^32=4294967296 by decide];exact hx) y;rw[show 2^32=4294967296 by decide,Ky]at this;rw[←this]
def zxv{p w s v x lo hi o o1 o2 q:Nat}(h:o=w*(s*v))(h1:o1+p*w*q=o+p*w*(q+lo))(h2:o2=o1+p*w*4294967296*hi)(e:4294967296*hi+lo=x*s):o2=w*(s*(v+p*x)):=by
 subst h2;subst h
 have:o1=w*(s*v)+p*w*lo:=by
  rw[KN (p*w) q lo]at h1;omega
 subst this
 grind
def zxw(a0:LA)(n:Nat)(ha:a0.length<=800000000)(hn:n<=4096):
  CX 478 [.sl dgE a0,i64 n] (.full dgE (zj (val a0*2^n))):=by
 refine zd func478<|wg (qT a0 oM) ?_;have la:=zD a0;have va:=zk (val a0);generalize zj (val a0)=a at*;rw[←va];clear va;have hs0:2^(n%32)<=2^31:=XJ dC oM;have hs1:0<2^(n%32):=Qc dC;generalize hs:2^(n%32)=s at*;refine⟨λh=>by omega,λh=>?_⟩;have em:zcE (n:Int) [4096]=n:=by simp only[zcE];omega
 change Dv _ _ _ _;rw[em];refine Dv.pos ⟨oM,oM,by show _<=(9223372036854775807:Int);omega⟩<|Dv.pos ⟨oM,oM⟩ λhl7=>?_;(iterate 2 refine wa ?_);refine⟨Dig,dgE,0,rfl,wb5 ?_⟩;intro hl8
 refine⟨Nat×LA,λ⟨i,out⟩=>⟨[(76,i64 i),(75,i64 a.length),(74,.sl dgE a),(9,i64 (n/32:Nat)),(10,i64 (n%32:Nat)),(11,.own 0)],[(0,kY out)],1,107,0⟩,
  λq=>q.1<=a.length/\q.2.length=a.length+n/32+1/\(∀j,q.1+n/32<j->dig q.2 j=0)/\dig q.2 (q.1+n/32)<s/\val q.2=4294967296^(n/32)*(s*val (a.take q.1)),λq=>a.length-q.1,(0,List.replicate (a.length+n/32+1) 0),?_,?_,?_⟩
 ·refine⟨Xg _,sI,λj _=>jZ _ _,by dsimp only;rw[jZ];exact hs1,by simp[zac,val]⟩
 ·exact ku [0] ⟨rfl,rfl,rfl,iR oM,iR oM,rfl,tV⟩ ⟨Xj (λn=>some (kY (List.replicate n 0))) oM,tV⟩
 rintro⟨i,out⟩ ⟨h1,h2,h3,h4,h5⟩
 dsimp only at h1 h2 h3 h4 h5;refine⟨λh9=>?_,λh9=>?_⟩
 ·refine wb λx(hx:a[i]?=some x)=>?_;have dx:=zR hx;have hxl:=x.isLt;refine wa<|wb10 ?_;have hm:x.val*s<=4294967295*2^31:=QK oM hs0
  have hm2:(x.val:Int)*2^((n%32:Nat):Int).toNat=((x.val*s:Nat):Int):=by
   rw[←hs,XX];simp
  have hm3:x.val*s<4294967296*s:=KV hxl hs1;refine Ar.fit (by rw[hm2];omega) ?_;rw[hm2];refine wa<|wb<|wb λc hc=>?_;rw[show((i:Int)+(n/32:Nat)).toNat=i+n/32 by omega]at hc;have dc:=zR hc;have hcl:=c.isLt;rw[dc]at h4;obtain⟨o1,o2⟩:=zD5 (c:=c.val) (x:=x.val) (s:=s) (p:=n%32) oM hs h4;refine Ar.wrap ?_;have ew:IntKind.u32.wrap ((x.val*s:Nat):Int)=((x.val*s%4294967296:Nat):Int):=by rw[zja];omega
  rw[ew];refine⟨_,(or32 hcl (Kr _ dC)).symm,?_⟩;rw[o1];refine wb<|wb λz hz=>?_;refine⟨dof (c.val+x.val*s%4294967296),Xj (λn=>[u32 n]) (by rw[z3,Xw o2]),?_⟩;(iterate 2 refine wa ?_);refine wb1<|Ar.wrap<|Ob.mk (by rw[XP];omega)<|Ob.mk (by rw[XP];omega) λz2 hz2=>?_;have hhi:x.val*s/4294967296<s:=by rw[XZ dC];omega
  refine⟨dof (x.val*s/4294967296),Xj (λn=>[u32 n]) (zay (by simp only[Int.reducePow];omega)),?_⟩;refine wa ?_;have ei:((i:Int)+(n/32:Nat)).toNat=i+n/32:=oM;have ei1:((i:Int)+(n/32:Nat)+1).toNat=i+n/32+1:=oM
  refine⟨(i+1,(out.set (i+n/32) (dof (c.val+x.val*s%4294967296))).set (i+n/32+1) (dof (x.val*s/4294967296))),⟨oN,by simp[h2],λj hj=>?_,?_,?_⟩,
   zt [0] ⟨Xj (λl=>some (kY l)) (by rw[ei,ei1]),tV⟩,oN⟩
  ·dsimp only at hj ⊢;rw[jk,Xb oM,jk,Xb oM];exact h3 j oM
  ·dsimp only;rw[show i+1+n/32=i+n/32+1 by omega,jk,Xe ⟨rfl,by rw[XP];omega⟩,z3,Xw oM];exact hhi
  dsimp only;have s1:=vu out (i+n/32) (dof (c.val+x.val*s%4294967296)) oM;have s2:=vu (out.set (i+n/32) (dof (c.val+x.val*s%4294967296))) (i+n/32+1) (dof (x.val*s/4294967296)) (by rw[XP];omega);rw[z3,Xw o2,dc,Kd]at s1;have hmm:x.val*s/4294967296%4294967296=x.val*s/4294967296:=Xw oM;rw[jk,Xb oM,h3 _ oM,Ks,XU,z3,hmm,X0,Kd]at s2;rw[zP,dx];exact zxv h5 s1 s2 (Ka _ _)
 have hi:i=a.length:=by omega
 subst hi;rw[kJ (Xi _),←hs,zax,←KR,←Kd,show 32*(n/32)+n%32=n by omega,Ky]at h5;refine zb.see 0 _ (zni out oM) rfl rfl rfl ?_;rw[h5];exact .refl
def n_shr(a0:LA)(n:Nat)(ha:a0.length<=800000000)(hn:n<=1000000000000)(hn0:n≠0):
  CX 478 [.sl dgE a0,i64 (-(n:Int))] (.full dgE (zj (val a0/2^n))):=by
 refine zd func478<|wg (qT a0 oM) ?_;have la:=zD a0;have va:=zk (val a0);generalize zj (val a0)=a at*;rw[←va];clear va;refine⟨λh=>?_,λh=>by omega⟩;intro hl2;refine wa<|Br.mk (λh3=>?_) (λh3=>?_)
 ·have e:val a/2^n=0:=by
   refine KK (Xy (qG a) ?_);rw[zax];exact XJ dC oM
  rw[e,jr];exact zo2
 refine wa<|Dv.pos ⟨oM,oM,by show _<=(9223372036854775807:Int);omega⟩<|wa<|Dv.pos ⟨oM,oM⟩ λhl4=>wa<|⟨Dig,dgE,0,rfl,wb5 ?_⟩;intro hl5
 refine⟨Nat×LA,λ⟨i,out⟩=>⟨[(37,i64 i),(36,i64 (a.length-n/32:Nat)),(0,.sl dgE a),(5,i64 (n/32:Nat)),(6,i64 (n%32:Nat)),(7,.own 0)],[(0,kY out)],1,107,0⟩,
  λq=>q.1<=a.length-n/32/\q.2.length=a.length-n/32/\∀j,j<q.1->dig q.2 j=val a/2^n/4294967296^j%4294967296,λq=>a.length-n/32-q.1,(0,List.replicate (a.length-n/32) 0),?_,?_,?_⟩
 ·exact⟨Xg _,sI,λj h=>by dsimp only at h;omega⟩
 ·exact ku [0] ⟨rfl,iR (by simp;omega),rfl,iR oM,iR oM,rfl,tV⟩ ⟨Xj (λn=>some (kY (List.replicate n 0))) oM,tV⟩
 rintro⟨i,out⟩ ⟨g1,g2,g3⟩
 dsimp only at g1 g2 g3;refine⟨λh6=>?_,λh6=>?_⟩
 ·have d1:=yb a (n/32+i);have d2:=yb a (n/32+i+1);refine wa<|wg (zdP a _ oM) ?_;rw[show((i:Int)+(n/32:Nat)).toNat=n/32+i by omega];(iterate 2 refine wa ?_);refine wg (zdP a _ oM) ?_;rw[show((i:Int)+(n/32:Nat)+1).toNat=n/32+i+1 by omega];refine wb1<|Ar.fit (by simp only[Int.reducePow];omega)<|⟨_,(zA0 d1 d2 rfl).symm,?_⟩;refine wb10<|Ar.wrap<|wb<|wb λz hz=>?_
  refine⟨dof ((dig a (n/32+i+1)*4294967296+dig a (n/32+i))/2^(n%32)),Xj (λn=>[u32 n]) (zay (by rw[XX];simp)),?_⟩;refine wa ?_
  refine⟨(i+1,out.set i (dof ((dig a (n/32+i+1)*4294967296+dig a (n/32+i))/2^(n%32)))),⟨oN,by simp[g2],λj hj=>?_⟩,
   zi [0],oN⟩
  dsimp only at hj ⊢
  by_cases e:i=j
  ·subst e;rw[jk,Xe ⟨rfl,oM⟩,z3];have:=zs4 a (n/32) (n%32) i oM;rw[show 32*(n/32)+n%32=n by omega]at this;rw[this]
  rw[jk,Xb (λh=>e h.1)];exact g3 j oM
 have hi:i=a.length-n/32:=by omega
 have e:val out=val a/2^n:=by
  rw[zc0 (λj hj=>g3 j oM),Xw];rw[XZ (Qc dC)];refine Xy (qG a) ?_;rw[zax,zax,←Kd];exact XJ dC oM
 refine zb.see 0 _ (zni out oM) rfl rfl rfl ?_;rw[e];exact .refl
def zjh{s:ByteArray}{i:Nat}{b:UInt8}(hb:s[i]?=some b)(hi:i<s.size)(key:∀h:i<s.size,(s[i]'h).toNat=bitLen i):b.toNat=z1 i:=by
 have e:=getElem?_pos s i hi;rw[hb]at e;rw[Xl e];exact key hi
def zc1{x:Nat}(b:Nat)(h:2^b<=x):z1 x=b+z1 (x/2^b):=
 bitLen_shift x b (Nat.ne_of_gt (Nat.div_pos h (Qc dC)))
def ztb(x:Nat)(hx:x<4294967296):CX 167 [u32 x] (i64 (z1 x)):=by
 refine zd func167 ?_;have fin:∀(y:Nat) (k:Int),y<256->(z1 x:Int)=k+z1 y->∀b:UInt8,b.toNat=z1 y->(k+(b.toNat:Int))=z1 x:=λy k _ h b hb=>by rw[h,hb]
 have small:∀y:Nat,y<256->z1 y<=8:=λy hy=>bitLen_le8 y hy
 refine⟨λh1=>?_,λh1=>?_⟩
 ·refine wb1 ?_;have e1:(x:Int)/2^16=((x/65536:Nat):Int):=by simp
  rw[e1];have n1:=zc1 (x:=x) 16 oM;rw[show(2:Nat)^16=65536 by decide]at n1;have hx1:x/65536<65536:=oM;generalize x/65536=y at*;refine⟨λh2=>?_,λh2=>?_⟩
  ·refine wb1 ?_;have e2:(y:Int)/2^8=((y/256:Nat):Int):=by simp
   rw[e2];have n2:=zc1 (x:=y) 8 oM;rw[show(2:Nat)^8=256 by decide]at n2;have hy1:y/256<256:=oM;generalize y/256=z at*;(iterate 2 refine wa ?_);refine wb8 λb hb=>?_;have hb':b.toNat=z1 z:=zjh hb (by show z<256;exact hy1) (λh=>len8tab_get z h);have:=small z hy1;(iterate 2 refine wa ?_);exact zh oM
  have hy1:y<256:=by omega
  refine wa<|wb8 λb hb=>?_;have hb':b.toNat=z1 y:=zjh hb (by show y<256;exact hy1) (λh=>len8tab_get y h);have:=small y hy1;(iterate 2 refine wa ?_);exact zh oM
 refine⟨λh2=>?_,λh2=>?_⟩
 ·refine wb1 ?_;have e2:(x:Int)/2^8=((x/256:Nat):Int):=by simp
  rw[e2];have n2:=zc1 (x:=x) 8 oM;rw[show(2:Nat)^8=256 by decide]at n2;have hy1:x/256<256:=oM;generalize x/256=z at*;(iterate 2 refine wa ?_);refine wb8 λb hb=>?_;have hb':b.toNat=z1 z:=zjh hb (by show z<256;exact hy1) (λh=>len8tab_get z h);have:=small z hy1;(iterate 2 refine wa ?_);exact zh oM
 have hy1:x<256:=by omega
 refine wa<|wb8 λb hb=>?_;have hb':b.toNat=z1 x:=zjh hb (by show x<256;exact hy1) (λh=>len8tab_get x h);have:=small x hy1;(iterate 2 refine wa ?_);exact zh oM
def znk{x:Nat}(hx:x<4294967296):z1 x<=32:=by
 by_cases h:x=0
 ·subst h;decide
 have:=zaw h;have:=(QG (by decide:1<2)).1 (Qo this (show x<2^32 from hx));omega
def zD6(x:Nat)(hx:x<4294967296):CX 477 [u32 x] (i64 (32-z1 x:Nat)):=by
 refine zd func477<|wg (ztb x hx) ?_;have:=znk hx;exact wa<|zh oM
def zo3(a:LA)(ha:a.length<=900000000):CX 402 [.sl dgE a] (i64 (z1 (val a))):=by
 refine zd func402<|wg (qT _ oM) λhl=>?_;have hlen:=zD a;refine⟨λh=>?_,λh=>?_⟩
 ·have:zj (val a)=[]:=XN.1 oM;exact zh (by rw[jT.1 this];rfl)
 have hne:zj (val a)≠[]:=λe=>h (by rw[e];rfl)
 have hn:=(u9 (val a)).resolve_left hne;have htop:=zbr hn;rw[zk]at htop;intro hl2;(iterate 2 refine wa ?_);intro hl3;refine wa<|wb λx hx=>?_;rw[show(((zj (val a)).length:Int)-1).toNat=(zj (val a)).length-1 by omega]at hx;have dx:=zR hx;have hxl:=x.isLt;refine wg (ztb x.val hxl) ?_;rw[dx]at htop;have:=znk hxl;exact wa<|zh oM
def zD7(a:LA)(n:Nat)(ha:a.length<=800000000)(hn:n<=1000000000000):
  CX 478 [.sl dgE a,i64 (-(n:Int))] (.sl dgE (zj (val a/2^n))):=by
 by_cases h:n=0
 ·subst h;have:=(zxw a 0 ha oM).le (zbY rfl);rw[Jp,Jj]at this;rw[Jp,Nat.div_one];exact this
 exact(n_shr a n ha hn h).le (zbY rfl)
def zD8(a:LA)(n:Nat)(ha:a.length<=800000000)(hn:n<=4096):
  CX 478 [.sl dgE a,i64 n] (.sl dgE (zj (val a*2^n))):=(zxw a n ha hn).le (zbY rfl)
def zrw{B s:Nat}(hB:B≠0)(hs:s+z1 (dig (zj B) ((zj B).length-1))=32):
  (zj (B*2^s)).length=(zj B).length/\2147483648<=dig (zj (B*2^s)) ((zj B).length-1):=by
 have hne:zj B≠[]:=λe=>hB (jT.1 e)
 have htop:=zbr ((u9 B).resolve_left hne);rw[zk]at htop;have hp:0<2^s:=Qc dC;have hV0:B*2^s≠0:=Yn hB oM;have h1:=zcZ B;have h2:=zaw hB;have hpos:=zbq.2 hB;have hl:=qY.2 hB
 have e:z1 (B*2^s)=z1 B+s:=by
  refine zfC ?_ hV0 ?_
  ·rw[Kd];exact KV h1 hp
  rw[show z1 B+s-1=z1 B-1+s by omega,Kd];exact Xs _ h2
 have e32:z1 (B*2^s)=32*(zj B).length:=oM;have hle:(zj (B*2^s)).length<=(zj B).length:=jI (by rw[zax,←e32];exact zcZ _);have hge:(zj B).length<=(zj (B*2^s)).length:=kZ (QI _ hp);have hlen:(zj (B*2^s)).length=(zj B).length:=oM;refine⟨hlen,?_⟩;have hnV:zj (B*2^s)≠[]:=λe=>hV0 (jT.1 e)
 have hz:=(u9 (B*2^s)).resolve_left hnV;have ht2:=zbr hz;rw[zk,hlen]at ht2;rw[hlen]at hz;have:=zaw hz;rw[show z1 (dig (zj (B*2^s)) ((zj B).length-1))-1=31 by omega]at this;exact this
def zxx{u q:LA}{k n V U:Nat}(hk:k<q.length)(hlen:q.length+n=u.length)(hV:V<4294967296^n)(g3:val (u.drop (k+1))<V)(g4:U=V*(4294967296^(k+1)*val (q.drop (k+1)))+val u):
  ((u.drop k).take (n+1)).length=n+1/\val ((u.drop k).take (n+1))<4294967296*V/\u=u.take k++((u.drop k).take (n+1)++u.drop (k+n+1))/\
  ∀w:LA,w=jy (n+1) (val ((u.drop k).take (n+1))%V)->∀d:Dig,d.val=val ((u.drop k).take (n+1))/V->
   val ((u.take k++(w++u.drop (k+n+1))).drop k)<V/\U=V*(4294967296^k*val ((q.set k d).drop k))+val (u.take k++(w++u.drop (k+n+1))):=by
 have hwl:((u.drop k).take (n+1)).length=n+1:=by rw[Xv,KJ];omega
 have hd:=yb u k;have hdk:=zu u k;have hlt:val (u.drop k)<4294967296*V:=oM;have hsp:=kw (u.drop k) (n+1);rw[JY,show k+(n+1)=k+n+1 by omega]at hsp
 have hz:val (u.drop (k+n+1))=0:=by
  apply Nat.eq_zero_of_not_pos;intro h0;have h1:4294967296^(n+1)<=4294967296^(n+1)*val (u.drop (k+n+1)):=QI _ h0;have h2:4294967296^(n+1)=4294967296^n*4294967296:=X0 ..;omega
 rw[hz,Ks,XU]at hsp
 have hu:u=u.take k++((u.drop k).take (n+1)++u.drop (k+n+1)):=by
  have e1:u.drop (k+n+1)=(u.drop k).drop (n+1):=by rw[JY];congr 1
  rw[e1,KG,KG]
 refine⟨hwl,oM,hu,?_⟩;intro w hw d hdv
 have hw0:val w=val ((u.drop k).take (n+1))%V:=by
  rw[hw];refine zta<|Xy (Kr _ oM) ?_;rw[X0];omega
 have hwl2:w.length=n+1:=by rw[hw,jM]
 have htl:(u.take k).length=k:=by rw[Xv];omega
 have hm:=Kr (val ((u.drop k).take (n+1))) (show V > 0 by omega);have hdm:=Ka (val ((u.drop k).take (n+1))) V;have hu2:=kw u k;rw[hsp]at hu2;constructor
 ·rw[List.drop_append_of_le_length oM,Qf oM,QC,u7,hz];omega
 rw[u7,u7,hz,htl,zbe hk,hw0,hdv,g4,hu2,X0];generalize val ((u.drop k).take (n+1))=W at*;generalize W/V=D at*;generalize W%V=R at*;generalize 4294967296^k=p at*;generalize val (q.drop (k+1))=Q at*;generalize val (u.take k)=T at*;clear hw hw0 hdv hsp hz hu hu2 g4 g3 hdk hwl hwl2 htl hlt hd hlen hk;subst hdm
 grind
def zA1{W V Bn g:Nat}(h:g=W/V∨g=W/V+1)(hV:0<V)(hVB:V<=Bn):
  (if W<g*V then W+Bn-g*V else W-g*V)=(if W<g*V then W%V+Bn-V else W%V)/\(W<g*V->g=W/V+1)/\(¬W<g*V->g=W/V):=by
 have hdm:=Ka W V;have hm:=Kr W hV
 rcases h with rfl|rfl
 ·have:¬W<W/V*V:=Nat.not_lt_of_le (JR W V);rw[Xb this,Xb this];refine⟨?_,λh=>absurd h this,λ_=>rfl⟩;rw[Ky];omega
 have e:(W/V+1)*V=V*(W/V)+V:=by rw[X6,YD,Ky]
 have:W<(W/V+1)*V:=oM;rw[Xe this,Xe this];refine⟨?_,λ_=>rfl,λh=>absurd this h⟩;omega
def zA2{t p d c R:Nat}(hp:t<p)(hd:d<4294967296)(hc:c<=1)(e:t+p*(d+c)=R+p*4294967296):(d+c)%4294967296=0/\t=R:=by
 have h:d+c=4294967296:=by
  rcases X7 (d+c) 4294967296 with h|h
  ·have h1:p*(d+c+1)<=p*4294967296:=Kh _ h;rw[KN,Jj]at h1;omega
  omega
 rw[h]at e ⊢;exact⟨rfl,oM⟩
def zD9{t1 t2 t3 p c z y xq xr:Nat}(f5:t1+p*c=t2+t3)(hd:4294967296*xq+xr=c+(z+y)):t1+p*xr+p*4294967296*xq=t2+p*z+(t3+p*y):=by grind
def zji(a b:LA)(ha:a.length<=400000000)(hb:b.length<=400000000)(hb0:val b≠0):
  CX 429 [.sl dgE a,.sl dgE b] (.tup [.sl dgE (zj (val a/val b)),.sl dgE (zj (val a%val b)),i64 0]):=by
 refine zd func429<|wg (qT _ oM)<|wg (qT _ oM) ?_;have hla:=zD a;have hlb:=zD b;generalize val a=A at*;generalize val b=B at*;intro hl;refine⟨λh=>?_,λh=>?_⟩
 ·exact absurd (jT.1 (XN.1 oM)) hb0
 refine wg (zDc _ _ oM oM) ?_;rw[zk,zk];refine⟨λh2=>?_,λh2=>?_⟩
 ·have hlt:=zdK.1 h2;refine wg (znj _ oM) ?_;rw[KK hlt,Xw hlt,jr];exact zeQ (.cons zw (.C (.C .nil)))
 have hge:B<=A:=QJ λh=>h2 (zdK.2 h)
 intro hl2;refine⟨λh3=>?_,λh3=>?_⟩
 ·refine wb λx hx=>?_;have dx:=zR hx;have hxl:=x.isLt
  have hx1:zj B=[x]:=by
   have hx:(zj B)[0]?=some x:=hx;obtain⟨y,hy⟩:=List.length_eq_one_iff.1 (show(zj B).length=1 by omega);rw[hy]at hx ⊢;simp at hx;rw[hx]
  have hB:x.val=B:=by
   have:=zk B;rw[hx1,uK,znd]at this;omega
  refine wg (n_one (zj A) x.val oM hxl oM) ?_;rw[zk,hB];have hm:=Kr A (show B > 0 by omega);exact wa<|wg (zdO (A%B) oM)<|.refl
 intro hl3;refine wa<|wb λx hx=>?_;rw[show(((zj B).length:Int)-1).toNat=(zj B).length-1 by omega]at hx;have dx:=zR hx;have hxl:=x.isLt;refine wg (zD6 x.val hxl) ?_;have hn32:=znk hxl;obtain⟨s,hs⟩:∃s,32-z1 x.val=s:=⟨_,rfl⟩;rw[hs];refine wg (zD8 _ s oM oM)<|wg (zxw _ s oM oM) ?_;rw[zk,zk];obtain⟨hvl,hvt⟩:=zrw (B:=B) (s:=s) hb0 (by rw[dx];omega);refine⟨Dig,dgE,[0],rfl,Ob.mk (zgK 0) ?_⟩
 have hul:(zj (A*2^s)).length<=400000001:=XE (jI (k:=(zj A).length+1) (by
  have h1:=zb0 (n:=A) (Xi _);have h2:2^s<=4294967296^1:=by rw[zax];exact XJ dC oM
  rw[Kd]
  exact Xy (KV h1 (Qc dC)) (Kh _ h2))) oM
 refine⟨_,rfl,Ob.mk ⟨List.cons_ne_nil _ _,(by show((_:Int)+((1:Nat):Int))*((4:Nat):Int)<=_;omega),(by show _+1<=_;omega),dC,λ_ _=>rfl,λ_ _=>rfl⟩ ?_⟩;have hp0:0<2^s:=Qc dC;have hmA:(zj A).length<=(zj (A*2^s)).length:=kZ (QI _ hp0);have hmB:(zj (B*2^s)).length<=(zj (A*2^s)).length:=kZ (Xs _ hge);have hV0:B*2^s≠0:=Yn hb0 oM;have eq1:A/B=A*2^s/(B*2^s):=(Yw _ _ hp0).symm
 have eq2:A%B=A*2^s%(B*2^s)/2^s:=by rw[Yx,Nat.mul_div_cancel _ hp0]
 rw[eq1,eq2];have hlb2:(zj B).length≠0/\(zj B).length≠1:=⟨oM,oM⟩;rw[←hvl]at hvt;clear eq1 eq2 hp0;generalize A*2^s=U at*;generalize B*2^s=V at*;refine⟨Unit,λ_=>⟨[(0,.sl dgE (zj A)),(9,i64 s),(10,.sl dgE (zj V)),(11,.own 0)],[(0,kY (zj U++[0]))],1,148,0⟩,λ_=>True,λ_=>0,(),tV,zi [1],?_⟩
 rintro⟨⟩ _
 intro hl4;intro hl5;have hll:(zj U++[0]).length=(zj U).length+1:=by simp
 refine⟨λh4=>?_,λ_=>?_⟩
 ·omega
 intro hl6;intro hl7;refine wa ?_;obtain⟨nq,hnq⟩:∃nq:Nat,nq+(zj V).length=(zj U).length+1:=⟨(zj U).length+1-(zj V).length,oM⟩;refine⟨Dig,dgE,0,rfl,wb5 ?_⟩;intro hl8;refine wa ?_;have hVn:V<4294967296^(zj V).length:=zb0 (Xi _)
 refine⟨Nat×LA×LA,λ⟨j,q,u⟩=>⟨[(13,i64 ((j:Int)-1)),(12,.own 1),(11,.own 0),(10,.sl dgE (zj V)),(9,i64 s)],[(1,kY q),(0,kY u)],2,148,0⟩,
  λx=>x.1<=nq/\x.2.1.length=nq/\x.2.2.length=(zj U).length+1/\val (x.2.2.drop x.1)<V/\U=V*(4294967296^x.1*val (x.2.1.drop x.1))+val x.2.2,λx=>x.1,
  (nq,List.replicate nq 0,zj U++[0]),?_,?_,?_⟩
 ·refine⟨Xi _,sI,hll,?_,?_⟩
  ·dsimp only;have hz:val (zj U++[0])=U:=by rw[uL,zk];rfl
   rw[zi9,hz];have h1:=zb0 (n:=U) (Xi _);have h2:=zne hV0;refine Xy ?_ h2;rw[XZ (zcX _),←Kd];refine Xy h1 (XJ dC oM)
  dsimp only;rw[zX sI,Ks,Ks,uL,zk];show U=0+(U+_*0);omega
 ·exact ku [0,1] ⟨iR (by simp only[Kj];omega),rfl,rfl,rfl,rfl,tV⟩ ⟨Xj (λn=>some (kY (List.replicate n 0))) oM,rfl,tV⟩
 rintro⟨j,q,u⟩ ⟨g1,g2,g3,g4,g5⟩
 dsimp only at g1 g2 g3 g4 g5;refine⟨λk1=>?_,λk1=>?_⟩
 ·obtain⟨k,rfl⟩:∃k,j=k+1:=⟨j-1,oM⟩;rw[show(((k+1:Nat):Int)-1)=k by omega];obtain⟨r1,r2,r3,r4⟩:=zxx (k:=k) (n:=(zj V).length) oM oM hVn g4 g5;intro hl9;(iterate 2 refine wa ?_);refine Sl.win (Ob.mk oM ?_);have htl:(u.take k).length=k:=by rw[Xv];omega
  rw[show(((k+1:Nat):Int)-1+((zj V).length:Int)+1-(((k+1:Nat):Int)-1))=(((u.drop k).take ((zj V).length+1)).length:Nat) by rw[r1];omega,
   show(((k+1:Nat):Int)-1)=((u.take k).length:Nat) by omega]
  have hW:(u.drop ((u.take k).length:Int).toNat).take (((u.drop k).take ((zj V).length+1)).length:Int).toNat=(u.drop k).take ((zj V).length+1):=by
   rw[XX,XX,r1,htl]
  obtain⟨post,hpost⟩:∃post,u.drop (k+(zj V).length+1)=post:=⟨_,rfl⟩;obtain⟨pre,hpre⟩:∃pre,u.take k=pre:=⟨_,rfl⟩;rw[hpost,hpre]at r3 r4;rw[hpre]at htl hW;rw[hpre];obtain⟨hgc,_,_⟩:=zly (U:=(u.drop k).take ((zj V).length+1)) (V:=zj V) r1 oM hvt (by rw[zk];exact r2);rw[zk]at hgc;have cg:=zAZ ((u.drop k).take ((zj V).length+1)) (zj V) oM r1 oM hvt (by rw[zk];exact r2);generalize zgM ((u.drop k).take ((zj V).length+1)) (zj V)=g at hgc cg;rw[←hW]at cg;refine wg cg ?_;clear cg hW
  generalize (u.drop k).take ((zj V).length+1)=W at*;have hD:val W/V<4294967296:=by rw[XZ oM];exact r2
  have hpn:4294967296^((zj V).length+1)=4294967296^(zj V).length*4294967296:=X0 ..;obtain⟨m1,m2,m3⟩:=zA1 (Bn:=4294967296^((zj V).length+1)) hgc (Kl hV0) oM;have hmod:=Kr (val W) (Kl hV0);have ct:=zD4 pre W post (zj V) g r1 oM;rw[←r3,zk]at ct
  have htw:zo1 W (zj V) g=jy ((zj V).length+1) (if val W<g*V then val W%V+4294967296^((zj V).length+1)-V else val W%V):=by
   unfold zo1;rw[zk,r1,m1]
  rw[htw]at ct;clear htw m1;refine zb.hand 0 _ _ _ rfl ct (qw _) (qw _) rfl rfl ?_;clear ct hgc;generalize val W/V=D at*;generalize val W%V=R at*;have hul2:u.length=pre.length+(W.length+post.length):=by rw[r3];simp
  refine⟨λk2=>?_,λk2=>?_⟩
  ·have hg:=m2 k2;rw[Xe k2];refine wa λhl10=>?_;obtain⟨w0,hw0⟩:∃w0,jy ((zj V).length+1) (R+4294967296^((zj V).length+1)-V)=w0:=⟨_,rfl⟩;have hw0l:w0.length=(zj V).length+1:=by rw[←hw0,jM]
   have hw0v:val w0=R+4294967296^((zj V).length+1)-V:=by rw[←hw0];exact zta oM
   rw[hw0]
   refine⟨Nat×LA×Nat,λ⟨i,w,c⟩=>⟨[(105,i64 i),(104,i64 (zj V).length),(103,.sl dgE (zj V)),(16,u64 c),(15,u64 ((g:Int)-1)),(14,.win 0 1 (pre.length:Nat) (W.length:Nat)),(13,i64 (pre.length:Nat)),(12,.own 1),(11,.own 0),(10,.sl dgE (zj V)),(9,i64 s)],
     [(1,kY q),(0,kY (pre++(w++post)))],2,148,0⟩,
    λx=>x.1<=(zj V).length/\x.2.1.length=(zj V).length+1/\x.2.2<=1/\(∀j,x.1<=j->dig x.2.1 j=dig w0 j)/\val (x.2.1.take x.1)+4294967296^x.1*x.2.2=val (w0.take x.1)+val ((zj V).take x.1),
    λx=>(zj V).length-x.1,(0,w0,0),?_,?_,?_⟩
   ·exact⟨Xg _,hw0l,Xg _,λ_ _=>rfl,by simp[val]⟩
   ·exact ku [0,1] ⟨rfl,rfl,rfl,rfl,rfl,rfl,iR oM,rfl,rfl,rfl,rfl,tV⟩ ⟨rfl,rfl,tV⟩
   rintro⟨i,w,c⟩ ⟨f1,f2,f3,f4,f5⟩
   dsimp only at f1 f2 f3 f4 f5;have hlw:(pre++(w++post)).length=pre.length+(zj V).length+1+post.length:=by simp[f2];omega
   refine⟨λk3=>?_,λk3=>?_⟩
   ·refine wb λy(hy:(zj V)[i]?=some y)=>?_;have dy:=zR hy;have hyl:=y.isLt;refine wb4<|Ob.mk (by rw[hlw];omega) λz hz=>?_;have hz:w[i]?=some z:=by rw[←zid (pre:=pre) (post:=post) oM,←hz];congr 1
    have dz:=zR hz;have hzl:=z.isLt;(iterate 4 refine wa ?_);refine Ar.wrap<|wb4<|Ob.mk (by rw[hlw];omega) λz' hz'=>?_;refine⟨dof (c+(z.val+y.val)),Xj (λn=>[u32 n]) (by rw[zay rfl];simp),?_⟩;refine wb1<|wa ?_
    refine⟨(i+1,w.set i (dof (c+(z.val+y.val))),(c+(z.val+y.val))/4294967296),⟨oN,by simp[f2],oN,λj hj=>?_,?_⟩,
     qa [(0,some 0),(1,some 1)] rfl rfl rfl ⟨rfl,rfl,rfl,Xj (λn=>some (u64 n)) (by simp only[Int.reducePow];omega),rfl,rfl,rfl,rfl,rfl,rfl,rfl,tV⟩
      ⟨rfl,Xj (λl=>some (kY l)) (by rw[←zie oM];congr 1),tV⟩,oN⟩
    ·dsimp only at hj ⊢;rw[jk,Xb oM];exact f4 j oM
    dsimp only;rw[zP,zP,zP,X0,dy,jk,Xe ⟨rfl,oM⟩,z3,←f4 i (Xi _),dz];have ht:(w.set i (dof (c+(z.val+y.val)))).take i=w.take i:=by rw[Q7 oM]
    rw[ht];have hd:=Ka (c+(z.val+y.val)) 4294967296;exact zD9 f5 hd
   have hi:i=(zj V).length:=by omega
   subst hi;intro hl11;refine wb4<|Ob.mk (by rw[hlw];omega) λz hz=>?_;have hz:w[(zj V).length]?=some z:=by rw[←zid (pre:=pre) (post:=post) oM,←hz];congr 1
   have dz:=zR hz;have hzl:=z.isLt;refine wa<|Ar.wrap<|wb4<|Ob.mk (by rw[hlw];omega) λz' hz'=>?_;refine⟨dof (z.val+c),Xj (λn=>[u32 n]) (by rw[zay rfl];simp),?_⟩
   have hw2:w.set (zj V).length (dof (z.val+c))=jy ((zj V).length+1) R:=by
    rw[←zs9 (w.set _ _),XP,f2];congr 1;have e1:=kw w0 (zj V).length;have e3:=zu w0 (zj V).length;rw[zX (show w0.length<=(zj V).length+1 by omega),Ks,XU]at e3;rw[e3,hw0v,hpn,←f4 _ (Xi _),dz]at e1;rw[kJ (Xi (zj V).length),zk]at f5;have g2:=kw (w.set (zj V).length (dof (z.val+c))) (zj V).length;have g3:=zu (w.set (zj V).length (dof (z.val+c))) (zj V).length;have g0:val ((w.set (zj V).length (dof (z.val+c))).drop ((zj V).length+1))=0:=zX (by rw[XP];omega)
    rw[g0,Ks,XU,jk,Xe ⟨rfl,oM⟩,z3]at g3;rw[g3,Q7 (Xi _)]at g2;rw[g2];obtain⟨n1,n2⟩:=zA2 (R:=R) (ja w (zj V).length) hzl f3 (by rw[KN];omega);rw[n1,n2];rfl
   have hset:(pre++(w++post)).set (pre.length+(zj V).length) (dof (z.val+c))=pre++(jy ((zj V).length+1) R++post):=by
    rw[zie oM,hw2]
   obtain⟨e1,e2⟩:=r4 _ rfl (dof D) (by rw[z3,Xw hD]);refine wa<|wb<|wb λz2 hz2=>?_;refine⟨dof D,Xj (λn=>[u32 n]) (by rw[z3,Xw hD];omega),?_⟩;refine wa ?_
   refine⟨(k,q.set k (dof D),pre++(jy ((zj V).length+1) R++post)),⟨oN,by simp[g2],by simp[jM];omega,e1,e2⟩,
    ku [0,1] ⟨iR oM,rfl,rfl,rfl,rfl,tV⟩ ⟨Xj (λn=>some (kY (q.set n _))) oM,Xj (λl=>some (kY l)) (by rw[←hset];congr 1),tV⟩,oN⟩
  have hg:=m3 k2;rw[Xb k2];obtain⟨e1,e2⟩:=r4 _ rfl (dof D) (by rw[z3,Xw hD]);refine wa<|wb<|wb λz2 hz2=>?_;refine⟨dof D,Xj (λn=>[u32 n]) (by rw[z3,Xw hD];omega),?_⟩;refine wa ?_
  refine⟨(k,q.set k (dof D),pre++(jy ((zj V).length+1) R++post)),⟨oN,by simp[g2],by simp[jM];omega,e1,e2⟩,
   ku [0,1] ⟨iR oM,rfl,rfl,rfl,rfl,tV⟩ ⟨Xj (λn=>some (kY (q.set n _))) oM,rfl,tV⟩,oN⟩
 have hj:j=0:=by omega
 subst hj;rw[K7]at g4 g5;rw[Jp,YD]at g5;refine zb.see 1 _ (qT _ oM) rfl rfl rfl<|wa<|zb.see 0 _ (zD7 u s oM oM) rfl rfl rfl ?_
 have e1:val q=U/V:=by
  rw[g5,QD oM,KK g4,XU]
 have e2:val u=U%V:=by
  rw[g5,QE,Xw g4]
 exact zeQ (.cons (kM (by rw[e1])) (.cons (kM (by rw[e2])) (.C .nil)))
def n_gcd(a b:LA)(ha:a.length<=400000000)(hb:b.length<=400000000):
  CX 432 [.sl dgE a,.sl dgE b] (.sl dgE (zj (Nat.gcd (val a) (val b)))):=by
 refine zd func432<|wg (vA _ oM)<|wg (vA _ oM) ?_;have hla:=zD a;have hlb:=zD b
 refine⟨Nat×Nat,λ⟨A,B⟩=>⟨[(0,.sl dgE (zj A)),(1,.sl dgE (zj B))],[],0,25,0⟩,
  λx=>(zj x.1).length<=400000000/\(zj x.2).length<=400000000/\Nat.gcd x.1 x.2=Nat.gcd (val a) (val b),λx=>x.2,(val a,val b),?_,?_,?_⟩
 ·exact⟨oN,oN,rfl⟩
 ·exact zA []
 rintro⟨A,B⟩ ⟨h1,h2,h3⟩
 dsimp only at h1 h2 h3;intro hl;refine⟨λk=>?_,λk=>?_⟩
 ·have hB:B≠0:=qY.1 oM;refine wg (zji (zj A) (zj B) oM oM (by rw[zk];exact hB)) ?_;rw[zk,zk];have hm:=Kr A (Kl hB);refine⟨(B,A%B),⟨h2,XE (kZ (YK hm)) h2,?_⟩,zA [],hm⟩;dsimp only;rw[←h3,Q1 B,Q1 A B,Nat.gcd_rec B A]
 have hB:B=0:=jT.1 (XN.1 oM);subst hB;rw[Nat.gcd_zero_right]at h3;exact kM (by rw[h3])
def zes(p:Prop)[i:Decidable p](m:LA)(hm:m.length<=1000000000):
  CX 406 [.pr p i,.sl dgE m] (wl (ofZ (if p then-(val m:Int) else val m))):=by
 refine zd func406<|wg (vA m hm) ?_;have hd:=qY (n:=val m);refine⟨λh=>?_,λh=>?_⟩
 ·intro hl;refine jg (.cons (zr ?_) (.cons (kM ?_) .nil))
  ·rw[za0,Xe h];omega
  rw[zdM,Xe h];congr 1;omega
 refine jg (.cons (zc ?_) (.cons (kM ?_) .nil))
 ·rw[za0,Xb h];omega
 rw[zdM,Xb h];congr 1
def zEa(m:LA)(hm:m.length<=1000000000):CX 406 [bl true,.sl dgE m] (wl (ofZ (-(val m:Int)))):=by
 have h:=(zes True m hm).args (.cons (zI trivial) LEs.refl)
 rwa [Xe trivial]at h
def zxy(m:LA)(hm:m.length<=1000000000):CX 406 [bl false,.sl dgE m] (wl (ofZ (val m:Int))):=by
 have h:=(zes False m hm).args (.cons (zc not_false) LEs.refl)
 rwa [Xb not_false]at h
def zxz(a:BI)(hm:a.mag.length<=1000000000):
  CX 406 [pr (a.neg=true),.sl dgE a.mag] (wl (ofZ a.v)):=zes (a.neg=true) a.mag hm
def zdQ(n:Int)(hn:R64 n):CX 353 [i64 n] (wl (ofZ n)):=by
 refine zd func353<|Br.mk (λh=>?_) (λh=>?_)
 ·refine Ar.wrap<|Ar.wrap ?_;have e:IntKind.u64.wrap (-IntKind.u64.wrap n)=((n.natAbs:Nat):Int):=by rw[jP,jP];omega
  rw[e];refine wg (zdO n.natAbs oM)<|wg (zEa (zj n.natAbs) (by have:=zaz hn;unfold jc at this;omega)) ?_;rw[zk,show(-(n.natAbs:Int))=n by omega];exact .refl
 refine Ar.wrap ?_;have e:IntKind.u64.wrap n=((n.natAbs:Nat):Int):=by rw[jP];omega
 rw[e];refine wg (zdO n.natAbs oM)<|wg (zxy (zj n.natAbs) (by have:=zaz hn;unfold jc at this;omega)) ?_;rw[zk,show(n.natAbs:Int)=n by omega];exact .refl
def zjj(a:BI)(ha:a.mag.length<=900000000):CX 404 [wl a] (i64 a.v.sign):=by
 refine zd func404<|wg (zo3 a.mag ha) ?_;have h1:=zbq (n:=val a.mag);have h2:=a.v_eq;refine⟨λh=>?_,λh=>?_⟩
 ·have:a.v=0:=by omega
  exact zh (by rw[this];rfl)
 refine⟨λh3=>?_,λh3=>?_⟩
 ·refine zh (Ki ?_).symm
  obtain⟨e1,e2⟩|⟨e1,e2⟩:=h2
  ·omega
  rw[e1]at h3;cases h3
 refine zh (Kq ?_).symm
 obtain⟨e1,e2⟩|⟨e1,e2⟩:=h2
 ·exact absurd e1 h3
 omega
def z_neg(a:BI)(ha:a.mag.length<=1000000000):CX 458 [wl a] (wl (ofZ (-a.v))):=by
 refine zd func458<|wg (zes (¬a.neg=true) a.mag ha) ?_
 have:(if¬a.neg=true then-(val a.mag:Int) else(val a.mag:Int))= -a.v:=by
  obtain⟨h1,h2⟩|⟨h1,h2⟩:=a.v_eq <;> simp[h1,h2]
 rw[this];exact .refl
def zDf(a b:BI)(ha:a.mag.length<=800000000)(hb:b.mag.length<=800000000):CX 378 [wl a,wl b] (wl (ofZ (a.v+b.v))):=by
 refine zd func378<|Br.mk (λh=>?_) (λh=>?_)
 ·refine wc<|wg (zDd a.mag b.mag oM oM) ?_;have hl:=zjd ha hb;refine wg (zes (a.neg=true) _ oM) ?_
  have:(if a.neg=true then-(val (zj (val a.mag+val b.mag)):Int) else(val (zj (val a.mag+val b.mag)):Int))=a.v+b.v:=by
   rw[zk]
   obtain⟨h1,h2⟩|⟨h1,h2⟩:=a.v_eq <;> obtain⟨h3,h4⟩|⟨h3,h4⟩:=b.v_eq <;> simp[h1,h3]at h <;> simp[h1,h2,h4] <;> omega
  rw[this];exact .refl
 refine wg (zDe a.mag b.mag oM oM) ?_;have hl:(zj (val a.mag-val b.mag)).length<=1000000000:=XE (kZ (YI _ _)) (XE (zD _) oM);have hl2:(zj (val b.mag-val a.mag)).length<=1000000000:=XE (kZ (YI _ _)) (XE (zD _) oM);refine⟨λh2=>?_,λh2=>?_⟩
 ·refine wg (zes (a.neg=true) _ hl) ?_
  have:(if a.neg=true then-(val (zj (val a.mag-val b.mag)):Int) else(val (zj (val a.mag-val b.mag)):Int))=a.v+b.v:=by
   rw[zk]
   obtain⟨h1,h2⟩|⟨h1,h2⟩:=a.v_eq <;> obtain⟨h3,h4⟩|⟨h3,h4⟩:=b.v_eq <;> simp[h1,h3]at h <;> simp[h1,h2,h4] <;> omega
  rw[this];exact .refl
 refine wg (zDe b.mag a.mag oM oM)<|wg (zes (b.neg=true) _ hl2) ?_
 have:(if b.neg=true then-(val (zj (val b.mag-val a.mag)):Int) else(val (zj (val b.mag-val a.mag)):Int))=a.v+b.v:=by
  rw[zk]
  obtain⟨h1,h2⟩|⟨h1,h2⟩:=a.v_eq <;> obtain⟨h3,h4⟩|⟨h3,h4⟩:=b.v_eq <;> simp[h1,h3]at h <;> simp[h3,h2,h4] <;> omega
 rw[this];exact .refl
def zT(z:Int):(ofZ z).mag.length=jc z:=rfl
def zo4(a b:BI)(ha:a.mag.length<=800000000)(hb:b.mag.length<=800000000):CX 405 [wl a,wl b] (wl (ofZ (a.v-b.v))):=by
 refine zd func405<|wc<|wg (z_neg b oM) ?_;have h1:=vO b;refine wg (zDf a (ofZ (-b.v)) oM (by rw[zT,vz];omega)) ?_;rw[zY,←Jf];exact .refl
def zhA(a b:BI)(ha:a.mag.length<=400000000)(hb:b.mag.length<=400000000):CX 403 [wl a,wl b] (wl (ofZ (a.v*b.v))):=by
 refine zd func403<|wc<|wg (n_mul a.mag b.mag ha hb) ?_
 have hl:(zj (val a.mag*val b.mag)).length<=1000000000:=by
  refine XE (jI (k:=a.mag.length+b.mag.length) ?_) oM;rw[Kd];exact Qh (qG _) (qG _)
 refine wg (zes (¬(a.neg=true↔b.neg=true)) _ hl) ?_;rw[zk,zDb];exact .refl
def zo5(a:BI)(ha:a.mag.length<=900000000):CX 348 [wl a] (i64 (z1 a.v.natAbs)):=by
 refine zd func348<|wg (zo3 a.mag ha) ?_;rw[←a.v_abs];exact .refl
def zxA{a b:Int}(hb:0<b):a/b=if a<0 then-((a.natAbs/b.natAbs+(if a.natAbs%b.natAbs=0 then 0 else 1):Nat):Int) else((a.natAbs/b.natAbs:Nat):Int):=by
 have hdm:=Ka a.natAbs b.natAbs;have hm:=Kr a.natAbs (show b.natAbs > 0 by omega);generalize a.natAbs/b.natAbs=q at*;generalize a.natAbs%b.natAbs=r at*;have e:(b:Int)*(q:Int)=((b.natAbs*q:Nat):Int):=by rw[Kb];congr 1;omega
 by_cases h:a<0
 ·rw[Xe h]
  by_cases h0:r=0
  ·rw[Xe h0,XU];exact((Qq hb).2 ⟨(by rw[QV,e];omega:(0:Int)+b*(-(q:Int))=a),oM,hb⟩).1
  rw[Xb h0];exact((Qq hb (r:=b-r)).2 ⟨by rw[QV,QN,Ji,e];omega,oM,oM⟩).1
 rw[Xb h];exact((Qq hb (r:=r)).2 ⟨by rw[e];omega,oM,oM⟩).1
def zjk(p:Prop)[i:Decidable p]:CG0 431 [.pr p i] [] (.fn 482 [.loc 0 0]) [(0,.box 4 [.pr p i])]:=by
 exact qu tok mix func431 rfl rfl rfl<|⟨some 0,zAQ (.cons (.loc 0 0 rfl) .nil),rfl,rfl⟩
def zgN(p:Prop)[i:Decidable p](m:LA)(hm:m.length<=1000000000):
  CX 482 [.sl dgE m,.ptr [.pr p i]] (wl (ofZ (if p then-(val m:Int) else val m))):=by
 exact zd func482<|wg (zes p m hm)<|.refl
def zxB(a b:BI)(ha:a.mag.length<=200000000)(hb:b.mag.length<=200000000)(h0:0<b.v):
  CX 376 [wl a,wl b] (.tup [wl (ofZ (a.v/b.v)),wl (ofZ (a.v%b.v)),i64 0]):=by
 refine zd func376<|wc<|wg (zxz a oM)<|wg (zxz b oM) ?_;have la:=vO a;have lb:=vO b;refine wg (zji (zj a.v.natAbs) (zj b.v.natAbs) (by unfold jc at la;omega) (by unfold jc at lb;omega) (by rw[zk];omega)) ?_;rw[zk,zk];refine⟨λh=>absurd rfl h,λ_=>?_⟩;have hza:=za0 a.v;have hzb:=za0 b.v;have hq:=zxA (a:=a.v) h0;have hm:=Int.emod_def a.v b.v
 have zq:jc (a.v/b.v)<=jc a.v:=zdN (by
  have:=J3 a.v b.v
  exact this)
 have zp:=kN (a.v/b.v) b.v;have neg1:a.v<0->¬((ofZ a.v).neg=true↔(ofZ b.v).neg=true):=λh=>by rw[hza,hzb];omega
 have neg2:¬a.v<0->¬¬((ofZ a.v).neg=true↔(ofZ b.v).neg=true):=λh=>by rw[hza,hzb];omega
 have q1:(zj (a.v.natAbs/b.v.natAbs)).length<=200000000:=XE (kZ (Qu _ _)) (by unfold jc at la;omega);refine⟨λh1=>?_,λh1=>?_⟩
 ·have hneg:a.v<0:=Km λh=>neg2 h h1
  intro hl;refine⟨λh2=>?_,λh2=>?_⟩
  ·have hr:a.v.natAbs%b.v.natAbs≠0:=qY.1 oM;refine wg (zdO 1 dC)<|wg (zDd _ _ oM (by decide +kernel)) ?_;rw[zk,zk];rw[Xe hneg,Xb hr]at hq;have ql:=zjd (a:=zj (a.v.natAbs/b.v.natAbs)) (b:=zj 1) q1 (by decide +kernel);rw[zk,zk]at ql;refine zb.fresh _ _ (zjk (¬((ofZ a.v).neg=true↔(ofZ b.v).neg=true))) rfl rfl (.inr rfl)<|wg (zgN _ (zj (a.v.natAbs/b.v.natAbs+1)) oM) ?_;rw[zk,Xe h1,←hq];refine wc<|wg (zhA (ofZ (a.v/b.v)) (ofZ b.v) (by rw[zT];omega) (by rw[zT];omega)) ?_
   refine wg (zo4 (ofZ a.v) (ofZ ((ofZ (a.v/b.v)).v*(ofZ b.v).v)) (by rw[zT];omega) (by rw[zT,zY,zY];omega)) ?_;rw[zY,zY,zY,zY,QL (a.v/b.v),←hm];exact .refl
  have hr:a.v.natAbs%b.v.natAbs=0:=jT.1 (XN.1 oM);rw[Xe hneg,Xe hr,XU]at hq;refine zb.fresh _ _ (zjk (¬((ofZ a.v).neg=true↔(ofZ b.v).neg=true))) rfl rfl (.inr rfl)<|wg (zgN _ (zj (a.v.natAbs/b.v.natAbs)) oM) ?_;rw[zk,Xe h1,←hq];refine wc<|wg (zhA (ofZ (a.v/b.v)) (ofZ b.v) (by rw[zT];omega) (by rw[zT];omega))<|wg (zo4 (ofZ a.v) (ofZ ((ofZ (a.v/b.v)).v*(ofZ b.v).v)) (by rw[zT];omega) (by rw[zT,zY,zY];omega)) ?_;rw[zY,zY,zY,zY,QL (a.v/b.v),←hm]
  exact .refl
 have hneg:¬a.v<0:=λh=>h1 (neg1 h)
 rw[Xb hneg]at hq;refine zb.fresh _ _ (zjk (¬((ofZ a.v).neg=true↔(ofZ b.v).neg=true))) rfl rfl (.inr rfl)<|wg (zgN _ (zj (a.v.natAbs/b.v.natAbs)) oM) ?_;rw[zk,Xb h1,←hq];refine wc<|wg (zhA (ofZ (a.v/b.v)) (ofZ b.v) (by rw[zT];omega) (by rw[zT];omega))<|wg (zo4 (ofZ a.v) (ofZ ((ofZ (a.v/b.v)).v*(ofZ b.v).v)) (by rw[zT];omega) (by rw[zT,zY,zY];omega)) ?_;rw[zY,zY,zY,zY,QL (a.v/b.v),←hm];exact .refl
def ztc(a:BI)(ha:a.mag.length<=1000000000):
  CX 322 [wl a] (.tup [i64 (zaT a.v),pr (-9223372036854775808<=a.v/\a.v<=9223372036854775807)]):=by
 refine zd func322<|wg (vA a.mag ha) ?_;have hl0:=zD a.mag;have hv:=a.v_eq;generalize hz:a.v=z at*;have hv':z= -(val a.mag:Int)∨z=(val a.mag:Int):=hv.imp YN YN
 have bad:¬(-9223372036854775808<=z/\z<=9223372036854775807)->LE (.tup [i64 0,bl false]) (.tup [i64 (zaT z),pr (-9223372036854775808<=z/\z<=9223372036854775807)]):=λh=>
  zW (zh (by rw[zaT,Xb h])) (zc h)
 have good:∀n:Int,n=z-> -9223372036854775808<=z/\z<=9223372036854775807->LE (.tup [i64 n,bl true]) (.tup [i64 (zaT z),pr (-9223372036854775808<=z/\z<=9223372036854775807)]):=λn hn h=>
  zW (zh (by rw[zaT,Xe h,hn])) (zI h)
 obtain⟨m,hm⟩:∃m,zj (val a.mag)=m:=⟨_,rfl⟩;have hmv:val m=val a.mag:=by rw[←hm,zk]
 have hbig:2<m.length->18446744073709551616<=val a.mag:=λh=>by
  have h0:val a.mag≠0:=qY.1 (by rw[hm];omega);have:=zne h0;rw[hm]at this;exact XE (XE dC (XJ dC (show 2<=m.length-1 by omega))) this
 rw[hm];rw[hm]at hl0;intro hl1;refine wa ?_
 refine⟨Nat,λj=>⟨[(6,i64 ((j:Int)-1)),(5,u64 (val (m.drop j))),(4,.sl dgE m),(1,.loc 0 0)],[(0,.box 45 (biE a))],1,55,0⟩,
  λj=>j<=m.length/\(j<m.length->m.length<=2),λj=>j,m.length,?_,?_,?_⟩
 ·exact⟨Xi _,λh=>absurd h (YG _)⟩
 ·exact ku [0] ⟨rfl,Xj (λn=>some (u64 n)) (by rw[zX (Xi _)];rfl),rfl,rfl,tV⟩ ⟨rfl,tV⟩
 rintro j ⟨h1,h2⟩
 refine⟨λh3=>?_,λh3=>?_⟩
 ·intro hl2;refine⟨λh4=>?_,λh4=>?_⟩
  ·have hd:=zu m (j-1);rw[show j-1+1=j by omega]at hd
   have hdl:val (m.drop j)<4294967296:=by
    have:=qG (m.drop j);rw[KJ]at this;exact Xy this (XE (XJ dC (show m.length-j<=1 by omega)) dC)
   refine wb1<|Ar.fit (by simp only[Int.reducePow];omega)<|wb λx hx=>?_;rw[show((j:Int)-1).toNat=j-1 by omega]at hx;have dx:=zR hx;have hxl:=x.isLt;refine wa<|⟨_,(zfI (x:=val (m.drop j)) (y:=x.val) hdl hxl rfl).symm,?_⟩;exact wa<|⟨j-1,⟨oM,λ_=>by omega⟩,ku [0] ⟨iR oM,Xj (λn=>some (u64 n)) (by rw[hd,dx];omega),rfl,rfl,tV⟩ ⟨rfl,tV⟩,oN⟩
  intro hl3;have:=hbig oM;refine⟨λ_=>?_,λh=>absurd h oM⟩;exact bad oM
 have hj:j=0:=by omega
 subst hj;have hd0:val (m.drop 0)=val a.mag:=by rw[K7,hmv]
 intro hl3
 have hv2:¬2<m.length->val a.mag<18446744073709551616:=λh=>by
  have:=qG m;rw[hmv]at this;exact Xy this (XE (XJ dC (show m.length<=2 by omega)) dC)
 refine⟨λh=>?_,λh=>?_⟩
 ·have:=hbig oM;exact bad oM
 have hs:=hv2 oM;have negz:a.neg=true->z= -(val a.mag:Int):=λh=>hv.elim YN λg=>by rw[h]at g;cases g.1
 have posz:¬a.neg=true->z=(val a.mag:Int):=λh=>hv.elim (λg=>absurd g.1 h) YN
 have hneg:a.neg=true->val a.mag<=9223372036854775808->IntKind.i64.wrap (IntKind.u64.wrap (-(val (m.drop 0):Int)))=z:=λh hle=>by
  have:=negz h;rw[hd0,jP];show IntKind.i64.wrap _=_;simp only[IntKind.wrap,IntKind.bits,IntKind.signed];simp;omega
 refine⟨λg1=>bad oM,λg1=>?_⟩;refine⟨λg2=>?_,λg2=>?_⟩
 ·refine⟨λg3=>bad ?_,λg3=>?_⟩
  ·have:=posz g3;omega
  have hn:a.neg=true:=Km g3;have:=negz hn;refine⟨λ_=>?_,λg4=>absurd hn g4⟩;exact Ar.wrap<|Ar.wrap<|good _ (hneg hn oM) oM
 refine⟨λg4=>?_,λg4=>?_⟩
 ·have:=negz g4;exact Ar.wrap<|Ar.wrap<|good _ (hneg g4 oM) oM
 have:=posz g4;exact wa<|good _ oM oM
structure BR where
 num:BI
 den:BI
 deriving DecidableEq
def BR.v(a:BR):Rat:=Rat.divInt a.num.v a.den.v
def ofQ(q:Rat):BR:=⟨ofZ q.num,ofZ q.den⟩
def kA(q:Rat):(ofQ q).v=q:=by unfold BR.v ofQ;rw[zY,zY,Qp]
def BR.len(a:BR):Nat:=max a.num.mag.length a.den.mag.length
def yJ(q:Rat):Nat:=max (jc q.num) (jc q.den)
def zO(q:Rat):(ofQ q).len=yJ q:=rfl
def zjl{n d:Int}(hd:d≠0):(if n.sign*d.sign<0 then-((n.natAbs/Nat.gcd n.natAbs d.natAbs:Nat):Int) else((n.natAbs/Nat.gcd n.natAbs d.natAbs:Nat):Int))=(Rat.divInt n d).num:=by
 have hg0:0<Nat.gcd n.natAbs d.natAbs:=Q9 _ oM;rw[Rat.num_divInt,show d.gcd n=Nat.gcd n.natAbs d.natAbs from Q1 _ _];obtain⟨k,hk⟩:((Nat.gcd n.natAbs d.natAbs:Nat):Int) ∣ n:=Int.ofNat_dvd_left.2 (Nat.gcd_dvd_left _ _);generalize Nat.gcd n.natAbs d.natAbs=g at*;have e1:n.natAbs/g=k.natAbs:=by rw[hk,QX,Je,Nat.mul_div_cancel_left _ hg0]
 have e2:d.sign*n/(g:Int)=d.sign*k:=by
  rw[hk,←Int.mul_assoc,QL d.sign,Int.mul_assoc,Int.mul_ediv_cancel_left _ oM]
 have e3:n.sign=k.sign:=by rw[hk,Int.sign_mul,Kq oM,Int.one_mul]
 rw[e1,e2,e3]
 rcases Qe d 0 with h|h|h
 ·rw[Ki h]
  rcases Qe k 0 with h'|h'|h'
  ·rw[Ki h',Xb dC];omega
  ·subst h';rw[Xb dC];rfl
  rw[Kq h',Xe dC];omega
 ·exact absurd h hd
 rw[Kq h]
 rcases Qe k 0 with h'|h'|h'
 ·rw[Ki h',Xe dC];omega
 ·subst h';rw[Xb dC];rfl
 rw[Kq h',Xb dC];omega
def zjm{n d:Int}(hd:d≠0):(Rat.divInt n d).den=d.natAbs/Nat.gcd n.natAbs d.natAbs:=by
 rw[Rat.den_divInt,Xb hd,show d.gcd n=Nat.gcd n.natAbs d.natAbs from Q1 _ _]
def zc2{n d:Int}(hd:d≠0):yJ (Rat.divInt n d)<=max (jc n) (jc d):=by
 have h1:jc (Rat.divInt n d).num<=jc n:=zdN (by
  rw[←zjl hd];have:=Qu n.natAbs (Nat.gcd n.natAbs d.natAbs);generalize n.natAbs/Nat.gcd n.natAbs d.natAbs=x at*
  split <;> omega)
 have h2:jc (Rat.divInt n d).den<=jc d:=zdN (by
  rw[zjm hd];have:=Qu d.natAbs (Nat.gcd n.natAbs d.natAbs);generalize d.natAbs/Nat.gcd n.natAbs d.natAbs=x at*
  omega)
 unfold yJ;omega
def qe(q:Rat):jc q.num<=yJ q:=Jd _ _
def qo(q:Rat):jc q.den<=yJ q:=Q2 _ _
def zM(a:BR):yJ a.v<=max a.len 1:=by
 by_cases h:a.den.v=0
 ·have:a.v=0:=by unfold BR.v;rw[h,Yo]
  rw[this];have:yJ 0<=1:=by decide +kernel
  omega
 have:=zc2 (n:=a.num.v) h;have h1:=vO a.num;have h2:=vO a.den;unfold BR.len BR.v;omega
def zgO(q:Rat):(q.den:Int)≠0:=by have:=q.den_nz;omega
def zjn(x y:Rat):Rat.divInt (x.num*y.den+y.num*x.den) (x.den*y.den)=x+y:=by
 have:=Yz x.num y.num (zgO x) (zgO y);rw[Qp,Qp]at this;exact this.symm
def zjo(x y:Rat):Rat.divInt (x.num*y.num) (x.den*y.den)=x*y:=by
 have:=Rat.divInt_mul_divInt x.num y.num (d₁:=x.den) (d₂:=y.den);rw[Qp,Qp]at this;exact this.symm
def zxC(x y:Rat):Rat.divInt (x.num*y.den-y.num*x.den) (x.den*y.den)=x-y:=by
 have:=Yz x.num (-y.num) (zgO x) (zgO y);rw[Qp,←Rat.neg_divInt,Qp,Int.neg_mul,←Jf]at this;rw[←this,J2]
def ue(x y:Rat):(x.den:Int)*(y.den:Int)≠0:=Int.mul_ne_zero (zgO x) (zgO y)
def zc3(x y:Rat):yJ (x+y)<=yJ x+yJ y+1:=by
 rw[←zjn];have h:=zc2 (n:=x.num*y.den+y.num*x.den) (ue x y);have h1:=zfG (x.num*y.den) (y.num*x.den);have h2:=kN x.num y.den;have h3:=kN y.num x.den;have h4:=kN x.den y.den;have a1:=qe x;have a2:=qe y;have a3:=qo x;have a4:=qo y;omega
def yT(x y:Rat):yJ (x*y)<=yJ x+yJ y:=by
 rw[←zjo];have h:=zc2 (n:=x.num*y.num) (ue x y);have h2:=kN x.num y.num;have h4:=kN x.den y.den;have a1:=qe x;have a2:=qe y;have a3:=qo x;have a4:=qo y;omega
def zjp(z:Int):yJ z<=max (jc z) 1:=by
 unfold yJ;rw[JM,JL];have:jc ((1:Nat):Int)=1:=by decide +kernel
 omega
def brE(a:BR):LQ:=biE a.num++biE a.den
def zlz(a:BI)(g:LA)(ha:a.mag.length<=400000000)(hg:g.length<=400000000)(h0:val g≠0):
  CX 433 [wl a,.ptr [.sl dgE g]] (.sl dgE (zj (val a.mag/val g))):=by
 exact zd func433<|wg (zji a.mag g ha hg h0)<|.refl
def zfJ(n d:BI)(hn:n.mag.length<=400000000)(hd:d.mag.length<=400000000)(h0:d.v≠0):
  CX 377 [wl n,wl d] (.agg (brE (ofQ (Rat.divInt n.v d.v)))):=by
 refine zd func377<|wg (n_gcd n.mag d.mag hn hd) ?_;have e1:=zjl (n:=n.v) h0;have e2:=zjm (n:=n.v) h0;rw[n.v_abs,d.v_abs]at e1 e2;have hdz:val d.mag≠0:=by rw[←d.v_abs];omega
 have hg0:0<Nat.gcd (val n.mag) (val d.mag):=Q9 _ oM
 have hgl:(zj (Nat.gcd (val n.mag) (val d.mag))).length<=400000000:=by
  refine XE (kZ (Nat.gcd_le_right _ oM)) (XE (zD _) hd)
 have l1:(zj (val n.mag/Nat.gcd (val n.mag) (val d.mag))).length<=1000000000:=XE (kZ (Qu _ _)) (XE (zD _) oM);have l2:(zj (val d.mag/Nat.gcd (val n.mag) (val d.mag))).length<=1000000000:=XE (kZ (Qu _ _)) (XE (zD _) oM);generalize Nat.gcd (val n.mag) (val d.mag)=g at*
 have s1: -1<=n.v.sign*d.v.sign/\n.v.sign*d.v.sign<=1:=by
  rcases Qe n.v 0 with h|h|h <;> rcases Qe d.v 0 with h'|h'|h' <;>
   simp[Ki,Kq,h,h']
 refine wc<|wg (zjj n oM)<|wg (zjj d oM)<|wa<|wg (zlz n (zj g) hn hgl (by rw[zk];omega)) ?_;rw[zk];refine wg (zes (n.v.sign*d.v.sign<0) _ l1)<|wg (zlz d (zj g) hd hgl (by rw[zk];omega))<|wg (zxy _ (by rw[zk];exact l2)) ?_;rw[zk,zk,zk,e1,←e2];exact .refl
def zDg(n d:BI)(hn:n.mag.length<=400000000)(hd:d.mag.length<=400000000)(h0:d.v≠0):
  CX 374 [wl n,wl d] (.tup [.agg (brE (ofQ (Rat.divInt n.v d.v))),i64 0]):=by
 refine zd func374<|wg (zjj d oM)<|⟨λh=>absurd (Qz.1 h) h0,λ_=>?_⟩;exact wg (zfJ n d hn hd h0)<|zW .refl .refl
def zEb(n d:BI)(hd:d.mag.length<=400000000)(h0:d.v=0):
  CX 374 [wl n,wl d] (.tup [.agg [bl false,.sl dgE [],bl false,.sl dgE []],i64 9]):=by
 refine zd func374<|wg (zjj d oM) ?_;rw[h0];refine⟨λ_=>?_,λh=>absurd rfl h⟩;exact zW (jg (.C (.cons zw (.C (.cons zw .nil))))) .refl
def j7(n:Int)(hn:R64 n):CX 288 [i64 n] (.agg (brE (ofQ (n:Rat)))):=by
 refine zd func288<|wg (zdQ n hn)<|wg (zdQ 1 dC) ?_;have e:ofQ (n:Rat)=⟨ofZ n,ofZ 1⟩:=by unfold ofQ;rw[JM,JL];rfl
 rw[e];exact .refl
def zrx(n d:Int)(hn:R64 n)(hd:R64 d)(h0:d≠0):CX 321 [i64 n,i64 d] (.tup [.agg (brE (ofQ (Rat.divInt n d))),i64 0]):=by
 refine zd func321 ?_;have l1:=zaz hn;have l2:=zaz hd;refine wg (zdQ n hn)<|wg (zdQ d hd)<|wg (zDg (ofZ n) (ofZ d) (by rw[zT];omega) (by rw[zT];omega) (by rw[zY];exact h0)) ?_;rw[zY,zY];exact zW .refl .refl
def qz(a:BR)(ha:a.len<=400000000):CX 347 [.agg (brE a)] (.agg (brE (ofQ a.v))):=by
 have h1:a.num.mag.length<=a.len:=Jd _ _;have h2:a.den.mag.length<=a.len:=Q2 _ _;refine zd func347 ?_
 by_cases h:a.den.v=0
 ·refine wg (zEb a.num a.den oM h)<|we<|wg (j7 0 dC) ?_;have e:a.v=((0:Int):Rat):=by unfold BR.v;rw[h,Yo];rfl
  rw[e];exact .refl
 refine wg (zDg a.num a.den oM oM h)<|⟨λh=>absurd rfl h,λ_=>?_⟩;exact .refl
def za1(q:Rat):(ofQ q).num.mag.length<=yJ q/\(ofQ q).den.mag.length<=yJ q:=⟨qe q,qo q⟩
def yg(q:Rat):(ofQ q).num.v=q.num:=zY _
def jF(q:Rat):(ofQ q).den.v=q.den:=zY _
def znl(a b:BR)(ha:a.len<=100000000)(hb:b.len<=100000000):CG0 349 [.agg (brE a),.agg (brE b)] []
  (.tup [wl (ofZ (a.v.num*b.v.den)),wl (ofZ (b.v.num*a.v.den)),wl (ofZ (a.v.den*b.v.den))]) []:=by
 have h1:=zM a;have h2:=zM b;have h3:=za1 a.v;have h4:=za1 b.v;refine zd func349<|wc<|wg (qz a oM)<|wg (qz b oM)<|wc<|wg (zhA (ofQ a.v).num (ofQ b.v).den oM oM) ?_;refine wg (zhA (ofQ b.v).num (ofQ a.v).den oM oM)<|wg (zhA (ofQ a.v).den (ofQ b.v).den oM oM) ?_;rw[yg,yg,jF,jF];exact .refl
def zo6(a b:BR)(ha:a.len<=50000000)(hb:b.len<=50000000):CX 324 [.agg (brE a),.agg (brE b)] (.agg (brE (ofQ (a.v+b.v)))):=by
 have h1:=zM a;have h2:=zM b;have n1:=qe a.v;have n2:=qe b.v;have d1:=qo a.v;have d2:=qo b.v;have m1:=kN a.v.num b.v.den;have m2:=kN b.v.num a.v.den;have m3:=kN a.v.den b.v.den;have m4:=zfG (a.v.num*b.v.den) (b.v.num*a.v.den);refine zd func324<|wg (znl a b oM oM)<|wc<|wg (zDf (ofZ (a.v.num*b.v.den)) (ofZ (b.v.num*a.v.den)) (by rw[zT];omega) (by rw[zT];omega)) ?_;rw[zY,zY]
 refine wg (zfJ (ofZ (a.v.num*b.v.den+b.v.num*a.v.den)) (ofZ (a.v.den*b.v.den)) (by rw[zT];omega) (by rw[zT];omega) (by rw[zY];exact ue _ _)) ?_;rw[zY,zY,zjn];exact .refl
def ztd(a b:BR)(ha:a.len<=50000000)(hb:b.len<=50000000):CX 352 [.agg (brE a),.agg (brE b)] (.agg (brE (ofQ (a.v*b.v)))):=by
 have h1:=zM a;have h2:=zM b;have h3:=za1 a.v;have h4:=za1 b.v;have n1:=qe a.v;have n2:=qe b.v;have d1:=qo a.v;have d2:=qo b.v;have m1:=kN a.v.num b.v.num;have m3:=kN a.v.den b.v.den;refine zd func352<|wc<|wg (qz a oM)<|wg (qz b oM)<|wc<|wg (zhA (ofQ a.v).num (ofQ b.v).num oM oM) ?_;refine wg (zhA (ofQ a.v).den (ofQ b.v).den oM oM) ?_;rw[yg,yg,jF,jF];refine wg (zfJ (ofZ (a.v.num*b.v.num)) (ofZ (a.v.den*b.v.den)) (by rw[zT];omega) (by rw[zT];omega) (by rw[zY];exact ue _ _)) ?_
 rw[zY,zY,zjo];exact .refl
def zte(a:BR)(ha:a.len<=100000000):CX 323 [.agg (brE a)] (wl (ofZ a.v.floor)):=by
 have h1:=zM a;have h3:=za1 a.v;have h0:=a.v.den_nz;refine zd func323<|wg (qz a oM)<|wg (zxB (ofQ a.v).num (ofQ a.v).den oM oM (by rw[jF];omega)) ?_;rw[yg,jF,←Rat.floor_def];exact .refl
def zaB(q:Rat):Nat:=max (z1 q.num.natAbs) (z1 q.den)
def zbs(a:BR)(ha:a.len<=100000000):CX 285 [.agg (brE a)] (i64 (zaB a.v)):=by
 have h1:=zM a;have h3:=za1 a.v;refine zd func285<|wg (qz a oM)<|wc<|wg (zo5 (ofQ a.v).num oM)<|wg (zo5 (ofQ a.v).den oM) ?_;rw[yg,jF,Je];refine zh ?_;unfold zaB;simp only[zfk];omega
abbrev wm(x:BR):SV:=.agg (brE x)
end Go.Gs
