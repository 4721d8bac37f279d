/- Natural numbers, the program's: products, quotients by one digit, guesses. -/
import Derived.Test.YtplllpkdmehklaaGreatDoorMA
import Derived.Test.YtplllpkdmehklaaGreatDoorMAT
set_option maxRecDepth 100000
set_option maxHeartbeats 8000000
set_option linter.all false
namespace Go.Gs
open Go.Proofs
theorem n_mul(a0 b0:List Dig)(ha:a0.length<=400000000)(hb:b0.length<=400000000):
  zd Tryz.prog 194 [.sl dgE a0,.sl dgE b0] [] (.sl dgE (zk (val a0*val b0))) []:=by
 refine zc tok mix Tryz.func194 rfl rfl rfl ?_;refine zb.t (jg a0 oM) ?_;refine zb.t (jg b0 oM) ?_;have la:=zG a0;have lb:=zG b0;have va:=zm (val a0);have vb:=zm (val b0);generalize zk (val a0)=a at*;generalize zk (val b0)=b at*;rw [← va,← vb];clear va vb;intro hl1 hl2;refine Ar.o ?_;refine ⟨Dig,dgE,0,rfl,Ob.o3 ?_⟩;intro hl3
 refine ⟨Nat×List Dig,fun ⟨i,out⟩=>⟨[(23,i64 i),(22,i64 a.length),(21,.sl dgE a),(5,.own 0),(1,.sl dgE b)],[(0,qe out)],1,73,0⟩,
  fun q=>q.1<=a.length/\q.2.length=a.length+b.length/\val q.2=val (a.take q.1)*val b/\∀j,q.1+b.length<=j->dig q.2 j=0,fun q=>a.length - q.1,(0,List.replicate (a.length+b.length) 0),?_,?_,?_⟩
 ·exact ⟨Nat.zero_le _,by simp,by simp [zaj,val],fun j _=>yz _ _⟩
 ·exact zY [(0,some 0)] ⟨congrArg (fun n=>some (qe (List.replicate n 0))) oM,trivial⟩
 rintro ⟨i,out0⟩ ⟨h1,h2,h3,h4⟩
 dsimp only at h1 h2 h3 h4;refine Br.mk (fun h5=>?_) (fun h5=>?_)
 ·refine Ob.o ?_;intro x hx;have hx:a[i]? =some x:=hx;have dx:=zS hx;have hxl:=x.isLt;refine Br.mk (fun h6=>?_) (fun h6=>?_)
  ·refine Ar.o ?_;refine ⟨(i+1,out0),⟨by dsimp only;omega,h2,?_,fun j hj=>h4 j (by dsimp only at hj;omega)⟩,zf [(0,some 0)],by dsimp only;omega⟩;dsimp only;rw [zO,dx,show x.val=0 by omega,Nat.mul_zero,Nat.add_zero];exact h3
  intro hl6
  refine ⟨Nat×List Dig×Nat,fun ⟨k,out,c⟩=>⟨[(32,i64 k),(31,i64 b.length),(30,.sl dgE b),(8,u64 c),(7,u32 x.val),(6,i64 i),(23,i64 i),(22,i64 a.length),(21,.sl dgE a),(5,.own 0),(1,.sl dgE b)],[(0,qe out)],1,73,0⟩,
   fun q=>q.1<=b.length/\q.2.1.length=a.length+b.length/\q.2.2 < 4294967296/\val q.2.1+4294967296 ^ (i+q.1)*q.2.2=val out0+4294967296 ^ i*(x.val*val (b.take q.1))/\∀j,i+b.length<=j->dig q.2.1 j=0,fun q=>b.length - q.1,(0,out0,0),?_,?_,?_⟩
  ·exact ⟨Nat.zero_le _,h2,by dsimp only;omega,by simp [val],h4⟩
  ·exact zf [(0,some 0)]
  rintro ⟨k,out,c⟩ ⟨g1,g2,g3,g4,g5⟩
  dsimp only at g1 g2 g3 g4 g5;refine Br.mk (fun g6=>?_) (fun g6=>?_)
  ·refine Ob.o ?_;intro y hy;have hy:b[k]? =some y:=hy;have dy:=zS hy;have hyl:=y.isLt;have hm0:=zdQ hxl hyl;(iterate 4 refine Ar.o ?_);refine Ob.o ?_;refine Ob.o ?_;intro z hz;rw [show ((i:Int)+k).toNat=i+k by omega] at hz;have dz:=zS hz;have hzl:=z.isLt;(iterate 4 refine Ar.o ?_);refine Ar.wrap ?_;refine Ob.o ?_;refine Ob.o ?_;intro z' hz';refine ⟨dof (x.val*y.val+z.val+c),congrArg (fun n=>[u32 n]) (zaH oM),?_⟩;refine Ob.o1 ?_;refine Ar.o ?_
   refine ⟨(k+1,out.set (i+k) (dof (x.val*y.val+z.val+c)),(x.val*y.val+z.val+c) / 4294967296),⟨by dsimp only;omega,by simp [g2],by dsimp only;omega,?_,?_⟩,
    z9 [(0,some 0)] ⟨rfl,rfl,rfl,congrArg (fun n=>some (u64 n)) (by simp only [Int.reducePow];omega),rfl,rfl,rfl,rfl,rfl,rfl,rfl,trivial⟩ ⟨congrArg (fun n=>some (qe (out.set n _))) oM,trivial⟩,by dsimp only;omega⟩
   ·dsimp only;have hs:=vD out (i+k) (dof (x.val*y.val+z.val+c)) oM;rw [ki,dz] at hs;rw [zO,dy,← Nat.add_assoc i k 1,Nat.pow_succ];have e:=Nat.div_add_mod (x.val*y.val+z.val+c) 4294967296;rw [Nat.pow_add] at g4 hs ⊢;exact zn0 g4 hs e
   ·intro j hj;dsimp only;rw [jA,if_neg oM];exact g5 j hj
  ·have hk:k=b.length:=by omega
   intro hl8;refine Ar.o ?_;refine Ar.wrap ?_;refine Ob.o ?_;refine Ob.o ?_;intro z' hz';refine ⟨dof c,congrArg (fun n=>[u32 n]) (zaH rfl),?_⟩;refine Ar.o ?_
   refine ⟨(i+1,out.set (i+b.length) (dof c)),⟨by dsimp only;omega,by simp [g2],?_,?_⟩,
    zY [(0,some 0)] ⟨congrArg (fun n=>some (qe (out.set n _))) oM,trivial⟩,by dsimp only;omega⟩
   ·dsimp only;have hs:=vD out (i+b.length) (dof c) oM;rw [ki,g5 _ (Nat.le_refl _),Nat.mod_eq_of_lt g3] at hs;rw [hk,kQ (Nat.le_refl _),h3] at g4;rw [zO,dx];generalize val (out.set (i+b.length) _)=r at*;generalize 4294967296 ^ i=p at*;generalize 4294967296 ^ (i+b.length)=q at*;generalize val (a.take i)=w at*;generalize x.val=x at*;generalize val out=o at*;clear h4 g5
    grind
   ·intro j hj;dsimp only;rw [jA,if_neg oM];exact g5 j oM
 ·have hi:i=a.length:=by omega
  rw [hi,kQ (Nat.le_refl _)] at h3;refine zb.see 0 _ (jg out0 oM) rfl rfl rfl ?_;rw [h3];exact .refl
theorem zft{x y:Nat}{e:Int}(hx:x < 4294967296)(hy:y < 4294967296)(he:e=(x:Int)*2 ^ 32):zat .or .u64 e y=((x*4294967296+y:Nat):Int):=by
 have h1:e=((x*4294967296:Nat):Int):=by rw [he];simp only [Int.reducePow];omega
 rw [h1,zqd oM oM];have:=Nat.two_pow_add_eq_or_of_lt (i:=32) (b:=y) (by rw [show 2 ^ 32=4294967296 by decide];exact hy) x;rw [show 2 ^ 32=4294967296 by decide,Nat.mul_comm] at this;rw [← this]
theorem n_one(a:List Dig)(d:Nat)(ha:a.length<=900000000)(hd:d < 4294967296)(h0:d≠0):
  zd Tryz.prog 240 [.sl dgE a,u32 d] [] (.tup [.sl dgE (zk (val a / d)),u32 (val a % d:Nat)]) []:=by
 refine zc tok mix Tryz.func240 rfl rfl rfl ?_;intro hl1;refine ⟨Dig,dgE,0,rfl,Ob.o3 ?_⟩;intro hl2;refine Ar.o ?_
 refine ⟨Nat×List Dig×Nat,fun ⟨j,out,r⟩=>⟨[(8,i64 ((j:Int) - 1)),(7,u64 r),(6,.own 0),(0,.sl dgE a),(1,u32 d)],[(0,qe out)],1,43,0⟩,
  fun q=>q.1<=a.length/\q.2.1.length=a.length/\q.2.2 < d/\val (a.drop q.1)=d*val (q.2.1.drop q.1)+q.2.2,fun q=>q.1,(a.length,List.replicate a.length 0,0),?_,?_,?_⟩
 ·refine ⟨Nat.le_refl _,by simp,by dsimp only;omega,?_⟩;dsimp only;rw [z5 (Nat.le_refl _),z5 (by simp),Nat.mul_zero]
 ·exact zY [(0,some 0)] ⟨congrArg (fun n=>some (qe (List.replicate n 0))) oM,trivial⟩
 rintro ⟨j,out,r⟩ ⟨h1,h2,h3,h4⟩
 dsimp only at h1 h2 h3 h4;refine Br.mk (fun h5=>?_) (fun h5=>?_)
 ·refine Ob.o1 ?_;refine Ar.fit (by simp only [Int.reducePow];omega) ?_;refine Ob.o ?_;intro x hx;rw [show ((j:Int) - 1).toNat=j - 1 by omega] at hx;have dx:=zS hx;have hxl:=x.isLt;refine Ar.o ?_;refine ⟨_,(zft oM hxl rfl).symm,?_⟩
  have hq:(r*4294967296+x.val) / d < 4294967296:=by
   rw [Nat.div_lt_iff_lt_mul oM];have:r*4294967296+4294967296<=4294967296*d:=oM;omega
  have hm:(r*4294967296+x.val) % d < d:=Nat.mod_lt _ oM;have hdm:=Nat.div_add_mod (r*4294967296+x.val) d;refine Ar.o ?_;refine Dv.pos ⟨oM,oM,by show _<=(18446744073709551615:Int);omega⟩ ?_;have e1:((r*4294967296+x.val:Nat):Int) / (d:Int)=(((r*4294967296+x.val) / d:Nat):Int):=by simp
  have e2:((r*4294967296+x.val:Nat):Int) % (d:Int)=(((r*4294967296+x.val) % d:Nat):Int):=by simp
  rw [e1];generalize (r*4294967296+x.val) / d=qd at*;refine Ar.o ?_;refine Ob.o ?_;refine Ob.o ?_;intro z hz;refine ⟨dof qd,congrArg (fun n=>[u32 n]) (by rw [ki,Nat.mod_eq_of_lt hq]),?_⟩;refine Ar.o ?_;refine Dv.pos ⟨oM,oM⟩ ?_;rw [e2];generalize (r*4294967296+x.val) % d=rd at*;refine Ar.o ?_
  refine ⟨(j - 1,out.set (j - 1) (dof qd),rd),⟨by dsimp only;omega,by simp [h2],hm,?_⟩,
   z9 [(0,some 0)] ⟨congrArg (fun n=>some (i64 n)) oM,rfl,rfl,rfl,rfl,trivial⟩ ⟨congrArg (fun n=>some (qe (out.set n _))) oM,trivial⟩,by dsimp only;omega⟩
  dsimp only;rw [zB a,dx,show j - 1+1=j by omega];refine zn1 h4 oM hdm ?_;rw [zbj oM,ki,Nat.mod_eq_of_lt hq,show j - 1+1=j by omega]
 ·have hj:j=0:=by omega
  subst hj;rw [List.drop_zero,List.drop_zero] at h4
  have e1:val out=val a / d:=by
   rw [h4,Nat.mul_add_div oM,Nat.div_eq_of_lt h3,Nat.add_zero]
  have e2:r=val a % d:=by
   rw [h4,Nat.mul_add_mod,Nat.mod_eq_of_lt h3]
  refine zb.see 0 _ (jg out oM) rfl rfl rfl ?_;refine Ar.o ?_;rw [e1];exact zU .refl (zj (by rw [e2]))
def zg9(v1 v2 u2 top:Nat):Nat->Nat->Nat
 | 0,q=>q
 | f+1,q=>if 4294967296<=q∨(top - q*v1)*4294967296+u2 < q*v2 then (if 4294967296<=top - (q - 1)*v1 then q - 1 else zg9 v1 v2 u2 top f (q - 1)) else q
theorem zn4 {P v1 v2 rv top u2 ru Q:Nat} (hrv:rv < P) (hru:ru < P) (hv1:2147483648<=v1) (hv2:v2 < 4294967296)
  (hQd:((top*4294967296+u2)*P+ru) / ((v1*4294967296+v2)*P+rv)=Q) (hQ:Q < 4294967296):∀(f q:Nat),q < f->q<=4294967297->q*v1<=top->Q<=q->
   zg9 v1 v2 u2 top f q=Q∨zg9 v1 v2 u2 top f q=Q+1
 | 0,q,h,_,_,_=>oM
 | f+1,q,h,hq,hle,hge=>by
  unfold zg9;have hr:q*v1+(top - q*v1)=top:=oM
  by_cases hc:4294967296<=q∨(top - q*v1)*4294967296+u2 < q*v2
  ·rw [if_pos hc]
   have hlt:Q < q:=by
    rcases hc with hc | hc
    ·omega
    ·rw [← hQd];exact ztn hru hr hc
   have hq1:(q - 1)*v1+v1=q*v1:=by
    have:q=(q - 1)+1:=oM;rw [this,Nat.add_mul];simp
   by_cases hb:4294967296<=top - (q - 1)*v1
   ·rw [if_pos hb];have h1:(q - 1)*v2<=4294967296*4294967295:=Nat.mul_le_mul oM oM;have:=zn3 hrv hru hv1 hv2 (q:=q - 1) (r:=top - (q - 1)*v1) (top:=top) (u2:=u2) oM oM oM (by rw [hQd];omega)
    rwa [hQd] at this
   ·rw [if_neg hb];exact zn4 hrv hru hv1 hv2 hQd hQ f (q - 1) oM oM oM oM
  ·rw [if_neg hc];have:=zn3 hrv hru hv1 hv2 hr (u2:=u2) oM oM (by rw [hQd];exact hge)
   rwa [hQd] at this
def un(U V:List Dig):Nat:=dig U V.length*4294967296+dig U (V.length - 1)
def zgq(U V:List Dig):Nat:=zg9 (dig V (V.length - 1)) (dig V (V.length - 2)) (dig U (V.length - 2)) (un U V) (un U V / dig V (V.length - 1)+1) (un U V / dig V (V.length - 1))
theorem zBb{U V:List Dig}(hU:U.length=V.length+1)(hn:2<=V.length)(hlt:val U < 4294967296*val V):un U V < (dig V (V.length - 1)+1)*4294967296:=by
 obtain ⟨n,hn'⟩:∃n,V.length=n+1:=⟨V.length - 1,oM⟩;have e1:=kG U n;have e2:=zB U n;have e3:=zB U (n+1);rw [z5 (show U.length<=n+1+1 by omega),Nat.mul_zero,Nat.add_zero] at e3;have f1:=kG V n;have f2:=zB V n;rw [z5 (show V.length<=n+1 by omega),Nat.mul_zero,Nat.add_zero] at f2;have f3:=jr V n;unfold un;rw [hn',Nat.add_sub_cancel];rw [e3] at e2;rw [e2] at e1;rw [f2] at f1;have hp:=zcZ n;generalize 4294967296 ^ n=p at*;generalize dig U n=a at*;generalize dig U (n+1)=b at*;generalize dig V n=v at*
 have h1:p*(a+4294967296*b) < p*(4294967296*(v+1)):=by
  have h2:p*(4294967296*(v+1))=4294967296*(p*v+p):=by
   rw [Nat.mul_left_comm,Nat.mul_add p v 1,Nat.mul_one]
  rw [h2];generalize p*(a+4294967296*b)=X at*;generalize p*v=Y at*;omega
 have:=Nat.lt_of_mul_lt_mul_left h1;omega
theorem zkP{U V:List Dig}(hU:U.length=V.length+1)(hn:2<=V.length)(hv:2147483648<=dig V (V.length - 1))(hlt:val U < 4294967296*val V):
  (zgq U V=val U / val V∨zgq U V=val U / val V+1)/\val U / val V<=un U V / dig V (V.length - 1)/\un U V / dig V (V.length - 1)<=4294967297:=by
 have hest:=zvC (r:=U) (b:=V) oM hlt;have htop:=zBb hU hn hlt
 have hVp:0 < val V:=by
  rcases Nat.eq_zero_or_pos (val V) with h | h
  ·rw [h] at hlt;omega
  ·exact h
 have hQ:val U / val V < 4294967296:=(Nat.div_lt_iff_lt_mul hVp).2 hlt
 have hq1:un U V / dig V (V.length - 1)<=4294967297:=by
  have:un U V / dig V (V.length - 1) < 4294967298:=by
   rw [Nat.div_lt_iff_lt_mul oM];omega
  omega
 refine ⟨?_,hest,hq1⟩;obtain ⟨n,hn'⟩:∃n,V.length=n+2:=⟨V.length - 2,oM⟩;have e1:=kG U n;have e2:=zB U n;have e3:=zB U (n+1);have e4:=zB U (n+1+1);rw [z5 (show U.length<=n+1+1+1 by omega),Nat.mul_zero,Nat.add_zero] at e4;have e5:=jr U n;obtain ⟨rv,r1,r2⟩:=zn2 V n hn'
 have eU:val U=(un U V*4294967296+dig U (V.length - 2))*4294967296 ^ n+val (U.take n):=by
  unfold un;rw [hn',show n+2 - 1=n+1 by omega,show n+2 - 2=n by omega,e1,e2,e3,e4];generalize 4294967296 ^ n=p
  grind
 have eV:val V=(dig V (V.length - 1)*4294967296+dig V (V.length - 2))*4294967296 ^ n+rv:=by
  rw [hn',show n+2 - 1=n+1 by omega,show n+2 - 2=n by omega];exact r2
 have key:=zn4 (P:=4294967296 ^ n) (v1:=dig V (V.length - 1)) (v2:=dig V (V.length - 2)) (top:=un U V) (u2:=dig U (V.length - 2)) (Q:=val U / val V) r1 e5 hv (yB _ _) (by rw [← eU,← eV]) hQ
  (un U V / dig V (V.length - 1)+1) (un U V / dig V (V.length - 1)) oM hq1 (Nat.div_mul_le_self _ _) hest
 exact key
theorem zyS(U V:List Dig)(hl:V.length<=900000000)(hU:U.length=V.length+1)(hn:2<=V.length)(hv:2147483648<=dig V (V.length - 1))(hlt:val U < 4294967296*val V):
  zd Tryz.prog 243 [.sl dgE U,.sl dgE V] [] (u64 (zgq U V:Nat)) []:=by
 obtain ⟨_,hQ,hq⟩:=zkP hU hn hv hlt;have hG:zgq U V=zg9 (dig V (V.length - 1)) (dig V (V.length - 2)) (dig U (V.length - 2)) (un U V) (un U V / dig V (V.length - 1)+1) (un U V / dig V (V.length - 1)):=rfl;refine zc tok mix Tryz.func243 rfl rfl rfl ?_;intro hl1;refine Dr.k ?_;refine Ob.o ?_;intro x hx;have hx:U[V.length]? =some x:=hx;have dx:=zS hx;have hxl:=x.isLt;refine Ar.o ?_;refine Ob.o1 ?_;refine Ar.fit (by simp only [Int.reducePow];omega) ?_;refine Ar.o ?_;refine Ob.o ?_;intro y hy;rw [show ((V.length:Int) - 1).toNat=V.length - 1 by omega] at hy
 have dy:=zS hy;have hyl:=y.isLt;refine Ar.o ?_;refine ⟨_,(zft hxl hyl rfl).symm,?_⟩;have ht:un U V=x.val*4294967296+y.val:=by unfold un;rw [dx,dy]
 rw [← ht];have ht2:un U V < 18446744073709551616:=oM;generalize un U V=T at*;refine Dr.k ?_;refine Ar.o ?_;refine Ob.o ?_;intro v1 hv1;rw [show ((V.length:Int) - 1).toNat=V.length - 1 by omega] at hv1;have d1:=zS hv1;have h1l:=v1.isLt;rw [d1] at hv hQ hq hG;refine Ar.o ?_;refine Dv.pos ⟨oM,oM,by show _<=(18446744073709551615:Int);omega⟩ ?_;refine Ar.o ?_;refine Ob.o ?_;intro v1' hv1';rw [show ((V.length:Int) - 1).toNat=V.length - 1 by omega,hv1] at hv1'
 cases hv1'
 refine Ar.o ?_;refine Dv.pos ⟨oM,oM⟩ ?_;have hdm:=Nat.div_add_mod T v1.val;have hml:T % v1.val < v1.val:=Nat.mod_lt _ oM
 refine ⟨Nat×Nat×Nat,fun ⟨f,q,r⟩=>⟨[(7,u64 q),(8,u64 r),(0,.sl dgE U),(1,.sl dgE V),(5,i64 V.length)],[],0,77,0⟩,
  fun s=>s.2.1 < s.1/\s.2.1<=4294967297/\s.2.2 < 4294967296/\s.2.1*v1.val+s.2.2=T/\zgq U V=zg9 v1.val (dig V (V.length - 2)) (dig U (V.length - 2)) T s.1 s.2.1,fun s=>s.1,
  (T / v1.val+1,T / v1.val,T % v1.val),?_,?_,?_⟩
 ·exact ⟨by dsimp only;omega,hq,by dsimp only;omega,by dsimp only;rw [Nat.mul_comm];exact hdm,hG⟩
 ·exact z9 [] ⟨congrArg (fun n=>some (u64 n)) (by simp),congrArg (fun n=>some (u64 n)) (by simp),rfl,rfl,rfl,trivial⟩ trivial
 clear hG hQ hq hdm hml ht
 rintro ⟨f,q,r⟩ ⟨g1,g2,g3,g4,g5⟩
 dsimp only at g1 g2 g3 g4 g5;obtain ⟨f',rfl⟩:∃f',f=f'+1:=⟨f - 1,oM⟩;unfold zg9 at g5;have er:T - q*v1.val=r:=oM;rw [er] at g5
 have dec:1<=q->(q - 1)*v1.val+v1.val=q*v1.val:=fun h=>by
  have:q=(q - 1)+1:=oM;rw [this,Nat.add_mul];simp
 refine Dr.k ?_;refine Ob.o1 ?_;refine Br.mk (fun k1=>?_) (fun k1=>?_)
 ·have k1:4294967296<=q:=by simp only [Int.reducePow] at k1;omega
  rw [if_pos (.inl k1)] at g5;have hd:=dec oM;have er2:T - (q - 1)*v1.val=r+v1.val:=oM;rw [er2] at g5;(iterate 2 refine Ar.o ?_);refine Ob.o ?_;intro z hz;rw [show ((V.length:Int) - 1).toNat=V.length - 1 by omega,hv1] at hz
  cases hz
  (iterate 2 refine Ar.o ?_);refine Ob.o1 ?_;refine Br.mk (fun k3=>?_) (fun k3=>?_)
  ·rw [if_pos (by simp only [Int.reducePow] at k3;omega)] at g5;exact zj oM
  ·rw [if_neg (by simp only [Int.reducePow] at k3;omega)] at g5
   exact ⟨(f',q - 1,r+v1.val),⟨by dsimp only;omega,by dsimp only;omega,by dsimp only;simp only [Int.reducePow] at k3;omega,by dsimp only;omega,g5⟩,
    z9 [] ⟨congrArg (fun n=>some (u64 n)) oM,rfl,rfl,rfl,rfl,trivial⟩ trivial,by dsimp only;omega⟩
 ·have k1:q < 4294967296:=by simp only [Int.reducePow] at k1;omega
  refine Ar.o ?_;refine Ob.o ?_;intro v2 hv2;rw [show ((V.length:Int) - 2).toNat=V.length - 2 by omega] at hv2;have d2:=zS hv2;have h2l:=v2.isLt;have hm:=zdQ k1 h2l;(iterate 2 refine Ar.o ?_);refine Ob.o1 ?_;refine Ar.fit (by simp only [Int.reducePow];omega) ?_;refine Ar.o ?_;refine Ob.o ?_;intro w hw;rw [show ((V.length:Int) - 2).toNat=V.length - 2 by omega] at hw;have dw:=zS hw;have hwl:=w.isLt;refine Ar.o ?_;refine ⟨_,(zft g3 hwl rfl).symm,?_⟩;rw [d2,dw] at g5;refine Br.mk (fun k2=>?_) (fun k2=>?_)
  ·have k2:r*4294967296+w.val < q*v2.val:=by
    rw [← Int.natCast_mul] at k2;omega
   have hq0:1<=q:=by
    rcases Nat.eq_zero_or_pos q with h | h
    ·subst h;omega
    ·exact h
   rw [if_pos (.inr k2)] at g5;have hd:=dec hq0;have er2:T - (q - 1)*v1.val=r+v1.val:=oM;rw [er2] at g5;rw [← d2,← dw] at g5;(iterate 2 refine Ar.o ?_);refine Ob.o ?_;intro z hz;rw [show ((V.length:Int) - 1).toNat=V.length - 1 by omega,hv1] at hz
   cases hz
   (iterate 2 refine Ar.o ?_);refine Ob.o1 ?_;refine Br.mk (fun k3=>?_) (fun k3=>?_)
   ·rw [if_pos (by simp only [Int.reducePow] at k3;omega)] at g5;exact zj oM
   ·rw [if_neg (by simp only [Int.reducePow] at k3;omega)] at g5
    exact ⟨(f',q - 1,r+v1.val),⟨by dsimp only;omega,by dsimp only;omega,by dsimp only;simp only [Int.reducePow] at k3;omega,by dsimp only;omega,g5⟩,
     z9 [] ⟨congrArg (fun n=>some (u64 n)) oM,rfl,rfl,rfl,rfl,trivial⟩ trivial,by dsimp only;omega⟩
  ·have k2:¬(4294967296<=q∨r*4294967296+w.val < q*v2.val):=by
    rw [← Int.natCast_mul] at k2;omega
   rw [if_neg k2] at g5;exact zj (by rw [g5])
def jN(k n:Nat):List Dig:=(List.range k).map fun i=>dof (n / 4294967296 ^ i)
theorem yl(k n:Nat):(jN k n).length=k:=by simp [jN]
theorem zvI{xs ys:List Dig}(hl:xs.length=ys.length)(h:∀i,i < xs.length->dig xs i=dig ys i):xs=ys:=by
 refine List.ext_getElem hl fun i h1 h2=>Fin.ext ?_
 have:=h i h1
 rwa [zS (List.getElem?_eq_getElem h1),zS (List.getElem?_eq_getElem h2)] at this
theorem zrG(w:List Dig):jN w.length (val w)=w:=by
 refine zvI (yl _ _) fun i hi=>?_
 rw [yl] at hi;rw [zyM w i];have:(jN w.length (val w))[i]? =some (dof (val w / 4294967296 ^ i)):=by simp [jN,hi]
 rw [zS this,ki]
theorem zrH{k n:Nat}(h:n < 4294967296 ^ k):val (jN k n)=n:=by
 have:=zc3 (xs:=jN k n) (N:=n) (fun j hj=>by
  rw [yl] at hj;have e:(jN k n)[j]? =some (dof (n / 4294967296 ^ j)):=by simp [jN,hj]
  rw [zS e,ki])
 rw [yl,Nat.mod_eq_of_lt h] at this;exact this
theorem zhL{pre w post:List Dig}{i:Nat}(h:i < w.length):(pre++(w++post))[pre.length+i]? =w[i]? :=by
 rw [List.getElem?_append_right oM,Nat.add_sub_cancel_left,List.getElem?_append_left h]
theorem zhM{pre w post:List Dig}{i:Nat}{d:Dig}(h:i < w.length):(pre++(w++post)).set (pre.length+i) d=pre++(w.set i d++post):=by
 rw [List.set_append_right _ _ oM,Nat.add_sub_cancel_left,List.set_append_left _ _ h]
def zn5(W V:List Dig)(q:Nat):List Dig:=jN W.length (if val W < q*val V then val W+4294967296 ^ W.length - q*val V else val W - q*val V)
theorem zBc{x:Nat}{e:Int}(h:e=x):zat .and .u64 e 4294967295=((x % 4294967296:Nat):Int):=by rw [h];exact zrD x
theorem ziQ{u lo b:Nat}(hu:u < 4294967296)(hl:lo < 4294967296)(hb:b<=1):
  ((dof (8589934592+u - lo - b)).val:Int)=IntKind.u32.wrap (IntKind.u64.wrap (IntKind.u64.wrap ((u:Int) - lo) - b))/\
  IntKind.u64.wrap (IntKind.u64.wrap ((u:Int) - lo) - b) / 2 ^ 63=(((if u < lo+b then 1 else 0:Nat)):Int)/\
  (8589934592+u - lo - b) % 4294967296+lo+b=u+4294967296*(if u < lo+b then 1 else 0):=by
 rw [ziL,yo,yo,ki];simp only [Int.reducePow];refine ⟨oM,?_,?_⟩
 ·split <;> omega
 ·split <;> omega
theorem zBd(pre W post V:List Dig)(q:Nat)(hW:W.length=V.length+1)(hq:q<=4294967296):
  zd Tryz.prog 244 [.win 0 1 (pre.length:Int) (W.length:Int),.sl dgE V,u64 q] [(0,qe (pre++(W++post)))] (pr (val W < q*val V)) [(0,qe (pre++(zn5 W V q++post)))]:=by
 refine jM tok mix Tryz.func244 rfl rfl rfl (qE _) rfl ?_;intro hl0
 refine ⟨Nat×List Dig×Nat×Nat,fun ⟨i,w,c,b⟩=>⟨[(15,i64 i),(14,i64 V.length),(13,.sl dgE V),(7,u64 c),(8,u64 b),(0,.win 0 1 (pre.length:Int) (W.length:Int)),(1,.sl dgE V),(2,u64 q)],[(0,qe (pre++(w++post)))],1,65,1⟩,
  fun s=>s.1<=V.length/\s.2.1.length=W.length/\s.2.2.1 < 4294967296/\s.2.2.2<=1/\(∀j,s.1<=j->dig s.2.1 j=dig W j)/\val (s.2.1.take s.1)+q*val (V.take s.1)=val (W.take s.1)+4294967296 ^ s.1*(s.2.2.1+s.2.2.2),
  fun s=>V.length - s.1,(0,W,0,0),?_,?_,?_⟩
 ·exact ⟨Nat.zero_le _,rfl,by dsimp only;omega,Nat.zero_le _,fun _ _=>rfl,by simp [val]⟩
 ·exact zf [(0,some 0)]
 rintro ⟨i,w,c,b⟩ ⟨h1,h2,h3,h4,h5,h6⟩
 dsimp only at h1 h2 h3 h4 h5 h6;have hll:(pre++(w++post)).length=pre.length+W.length+post.length:=by simp [h2];omega
 refine Br.mk (fun k1=>?_) (fun k1=>?_)
 ·refine Ob.o ?_;intro y hy;have hy:V[i]? =some y:=hy;have dy:=zS hy;have hyl:=y.isLt;have hm:q*y.val<=4294967296*4294967295:=Nat.mul_le_mul hq oM;refine Ar.o ?_;refine Ar.fit (by rw [← Int.natCast_mul];omega) ?_;refine Ar.fit (by rw [← Int.natCast_mul];omega) ?_;refine Ob.o2 ?_;refine Ob.mk (by rw [hll];omega) ?_;intro u hu;have hu:w[i]? =some u:=by rw [← zhL (pre:=pre) (post:=post) oM,← hu];congr 1
  have du:=zS hu;have hul:=u.isLt;refine Ar.o ?_;have ex:(c:Int)+(q:Int)*(y.val:Int)=((c+q*y.val:Nat):Int):=by simp
  refine ⟨_,(zBc ex).symm,?_⟩;rw [ex];generalize hX:c+q*y.val=X at*;obtain ⟨t1,t2,t3⟩:=ziQ (u:=u.val) (lo:=X % 4294967296) (b:=b) hul (Nat.mod_lt _ dC) h4;refine Ar.wrap ?_;refine Ar.wrap ?_;refine Ar.wrap ?_;refine Ob.o2 ?_;refine Ob.mk (by rw [hll];omega) ?_;intro z hz;refine ⟨dof (8589934592+u.val - X % 4294967296 - b),congrArg (fun n=>[u32 n]) t1,?_⟩;refine Ob.o1 ?_;refine Ob.o1 ?_;refine Ar.o ?_;generalize (if u.val < X % 4294967296+b then 1 else 0)=b' at*;have hb':b'<=1:=oM
  refine ⟨(i+1,w.set i (dof (8589934592+u.val - X % 4294967296 - b)),X / 4294967296,b'),⟨by dsimp only;omega,by simp [h2],by dsimp only;omega,hb',fun j hj=>?_,?_⟩,
   qw [(0,some 0)] rfl rfl rfl ⟨rfl,rfl,rfl,congrArg (fun n=>some (u64 n)) (by simp only [Int.reducePow];omega),congrArg (fun n=>some (u64 n)) t2,rfl,rfl,rfl,trivial⟩
    ⟨congrArg (fun l=>some (qe l)) (by rw [← zhM oM];congr 1),trivial⟩,by dsimp only;omega⟩
  ·dsimp only at hj ⊢;rw [jA,if_neg oM];exact h5 j oM
  ·dsimp only;rw [zO,zO,zO,Nat.pow_succ,dy,jA,if_pos ⟨rfl,oM⟩,ki,← h5 i (Nat.le_refl _),du];have ht:(w.set i (dof (8589934592+u.val - X % 4294967296 - b))).take i=w.take i:=by rw [List.take_set_of_le oM]
   rw [ht];have hd:=Nat.div_add_mod X 4294967296;exact zto h6 oM t3
 ·have hi:i=V.length:=by omega
  subst hi;intro hl9;refine Ob.o2 ?_;refine Ob.mk (by rw [hll];omega) ?_;intro u hu;have hu:w[V.length]? =some u:=by rw [← zhL (pre:=pre) (post:=post) oM,← hu];congr 1
  have du:=zS hu;have hul:=u.isLt;refine Ar.o ?_;obtain ⟨t1,t2,t3⟩:=ziQ (u:=u.val) (lo:=c) (b:=b) hul h3 h4;refine Ar.wrap ?_;refine Ar.wrap ?_;intro hl10;refine Ar.wrap ?_;refine Ob.o2 ?_;refine Ob.mk (by rw [hll];omega) ?_;intro z hz;refine ⟨dof (8589934592+u.val - c - b),congrArg (fun n=>[u32 n]) t1,?_⟩;refine Ob.o1 ?_
  have ev:val (w.set V.length (dof (8589934592+u.val - c - b)))+q*val V=val W+4294967296 ^ W.length*(if u.val < c+b then 1 else 0):=by
   have e1:=vD w V.length (dof (8589934592+u.val - c - b)) oM;have e2:=kG w V.length;have e3:=zB w V.length;rw [z5 (show w.length<=V.length+1 by omega),Nat.mul_zero,Nat.add_zero] at e3;rw [e3] at e2;have f2:=kG W V.length;have f3:=zB W V.length;rw [z5 (show W.length<=V.length+1 by omega),Nat.mul_zero,Nat.add_zero] at f3;rw [f3] at f2;rw [kQ (Nat.le_refl V.length)] at h6;rw [hW,Nat.pow_succ,f2,← h5 _ (Nat.le_refl _),du];rw [du] at e1 e2;rw [ki] at e1;generalize (if u.val < c+b then 1 else 0)=b' at*
   generalize (8589934592+u.val - c - b) % 4294967296=u' at*;generalize 4294967296 ^ V.length=p at*;have e4:p*(u'+c+b)=p*(u.val+4294967296*b'):=by rw [t3]
   generalize u.val=u at*;generalize val (w.take V.length)=wt at*;generalize val (W.take V.length)=Wt at*;generalize q*val V=qv at*;clear h5 t1 t2
   grind
  have hvl:=qT (w.set V.length (dof (8589934592+u.val - c - b)));rw [List.length_set,h2] at hvl
  have hneg:(u.val < c+b)↔val W < q*val V:=by
   constructor
   ·intro h;rw [if_pos h] at ev;omega
   ·intro h
    by_cases hh:u.val < c+b
    ·exact hh
    ·rw [if_neg hh] at ev;omega
  have hfin:w.set V.length (dof (8589934592+u.val - c - b))=zn5 W V q:=by
   rw [← zrG (w.set V.length (dof (8589934592+u.val - c - b)))];unfold zn5;rw [List.length_set,h2];congr 1
   by_cases hh:val W < q*val V
   ·rw [if_pos hh];rw [if_pos (hneg.2 hh)] at ev;omega
   ·rw [if_neg hh];rw [if_neg (fun h=>hh (hneg.1 h))] at ev;omega
  refine ⟨congrArg (fun l=>some (qe l)) ?_,zF ?_⟩
  ·rw [← hfin,← zhM oM];congr 1
  ·rw [t2,← hneg]
   by_cases hh:u.val < c+b
   ·simp [hh]
   ·simp [hh]
end Go.Gs
