/- Natural numbers, the program's: quotient and remainder. -/
import Derived.Test.YtakicgnbhdpknaaGreatDoorNAT
set_option maxRecDepth 100000
set_option maxHeartbeats 8000000
set_option linter.all false
namespace Go.Gs
open Proofs.Tryz
open Go.Proofs
def zsc{B s:Nat}(hB:B≠0)(hs:s+kA (dig (zm B) ((zm B).length-1))=32):
  (zm (B*2^s)).length=(zm B).length/\2147483648<=dig (zm (B*2^s)) ((zm B).length-1):=by
 have hne:zm B≠[]:=λe=>hB (yF.1 e)
 have htop:=zbZ ((vM B).resolve_left hne);rw[zo]at htop;have hp:0<2^s:=KW dC;have hV0:B*2^s≠0:=Yc hB oM;have h1:=zdA B;have h2:=zbX hB;have hpos:=zbY.2 hB;have hl:=jz.2 hB
 have e:kA (B*2^s)=kA B+s:=by
  refine zgi ?_ hV0 ?_
  ·rw[Ke];exact KK h1 hp
  rw[show kA B+s-1=kA B-1+s by omega,Ke];exact Xv _ h2
 have e32:kA (B*2^s)=32*(zm B).length:=oM;have hle:(zm (B*2^s)).length<=(zm B).length:=jM (by rw[zbb,←e32];exact zdA _);have hge:(zm B).length<=(zm (B*2^s)).length:=qm (QG _ hp);have hlen:(zm (B*2^s)).length=(zm B).length:=oM;refine⟨hlen,?_⟩;have hnV:zm (B*2^s)≠[]:=λe=>hV0 (yF.1 e)
 have hz:=(vM (B*2^s)).resolve_left hnV;have ht2:=zbZ hz;rw[zo,hlen]at ht2;rw[hlen]at hz;have:=zbX hz;rw[show kA (dig (zm (B*2^s)) ((zm B).length-1))-1=31 by omega]at this;exact this
def zxL{u q:LB}{k n V U:Nat}(hk:k<q.length)(hlen:q.length+n=u.length)(hV:V<4294967296^n)(g3:val (u.drop (k+1))<V)(g4:U=V*(4294967296^(k+1)*val (q.drop (k+1)))+val u):
  ((u.drop k).take (n+1)).length=n+1/\val ((u.drop k).take (n+1))<4294967296*V/\u=u.take k++((u.drop k).take (n+1)++u.drop (k+n+1))/\
  ∀w:LB,w=yc (n+1) (val ((u.drop k).take (n+1))%V)->∀d:Dig,d.val=val ((u.drop k).take (n+1))/V->
   val ((u.take k++(w++u.drop (k+n+1))).drop k)<V/\U=V*(4294967296^k*val ((q.set k d).drop k))+val (u.take k++(w++u.drop (k+n+1))):=by
 have hwl:((u.drop k).take (n+1)).length=n+1:=by rw[Xo,Kv];omega
 have hd:=yS u k;have hdk:=zG u k;have hlt:val (u.drop k)<4294967296*V:=oM;have hsp:=kR (u.drop k) (n+1);rw[JJ,show k+(n+1)=k+n+1 by omega]at hsp
 have hz:val (u.drop (k+n+1))=0:=by
  apply Nat.eq_zero_of_not_pos;intro h0;have h1:4294967296^(n+1)<=4294967296^(n+1)*val (u.drop (k+n+1)):=QG _ h0;have h2:4294967296^(n+1)=4294967296^n*4294967296:=XU ..;omega
 rw[hz,Ko,XP]at hsp
 have hu:u=u.take k++((u.drop k).take (n+1)++u.drop (k+n+1)):=by
  have e1:u.drop (k+n+1)=(u.drop k).drop (n+1):=by rw[JJ];congr 1
  rw[e1,Kj,Kj]
 refine⟨hwl,oM,hu,?_⟩;intro w hw d hdv
 have hw0:val w=val ((u.drop k).take (n+1))%V:=by
  rw[hw];refine ztO<|Xw (Kk _ oM) ?_;rw[XU];omega
 have hwl2:w.length=n+1:=by rw[hw,yr]
 have htl:(u.take k).length=k:=by rw[Xo];omega
 have hm:=Kk (val ((u.drop k).take (n+1))) (show V > 0 by omega);have hdm:=X8 (val ((u.drop k).take (n+1))) V;have hu2:=kR u k;rw[hsp]at hu2;constructor
 ·rw[List.drop_append_of_le_length oM,Jf oM,Qx,vL,hz];omega
 rw[vL,vL,hz,htl,zbP hk,hw0,hdv,g4,hu2,XU];generalize val ((u.drop k).take (n+1))=W at*;generalize W/V=D at*;generalize W%V=R at*;generalize 4294967296^k=p at*;generalize val (q.drop (k+1))=Q at*;generalize val (u.take k)=T at*;clear hw hw0 hdv hsp hz hu hu2 g4 g3 hdk hwl hwl2 htl hlt hd hlen hk;subst hdm
 grind
def zAJ{W V Bn g:Nat}(h:g=W/V∨g=W/V+1)(hV:0<V)(hVB:V<=Bn):
  (if W<g*V then W+Bn-g*V else W-g*V)=(if W<g*V then W%V+Bn-V else W%V)/\(W<g*V->g=W/V+1)/\(¬W<g*V->g=W/V):=by
 have hdm:=X8 W V;have hm:=Kk W hV
 rcases h with rfl|rfl
 ·have:¬W<W/V*V:=Nat.not_lt_of_le (JE W V);rw[Xc this,Xc this];refine⟨?_,λh=>absurd h this,λ_=>rfl⟩;rw[Ks];omega
 have e:(W/V+1)*V=V*(W/V)+V:=by rw[X2,Yt,Ks]
 have:W<(W/V+1)*V:=oM;rw[Xe this,Xe this];refine⟨?_,λ_=>rfl,λh=>absurd this h⟩;omega
def zAK{t p d c R:Nat}(hp:t<p)(hd:d<4294967296)(hc:c<=1)(e:t+p*(d+c)=R+p*4294967296):(d+c)%4294967296=0/\t=R:=by
 have h:d+c=4294967296:=by
  rcases Qe (d+c) 4294967296 with h|h
  ·have h1:p*(d+c+1)<=p*4294967296:=Kf _ h;rw[KE,Jb]at h1;omega
  omega
 rw[h]at e ⊢;exact⟨rfl,oM⟩
def zDB{t1 t2 t3 p c z y xq xr:Nat}(f5:t1+p*c=t2+t3)(hd:4294967296*xq+xr=c+(z+y)):t1+p*xr+p*4294967296*xq=t2+p*z+(t3+p*y):=by grind
def zkm(a b:LB)(ha:a.length<=400000000)(hb:b.length<=400000000)(hb0:val b≠0):
  CX 418 [.sl dgE a,.sl dgE b] (.tup [.sl dgE (zm (val a/val b)),.sl dgE (zm (val a%val b)),i64 0]):=by
 refine zc func418<|wg (jv _ oM)<|wg (jv _ oM) ?_;have hla:=zJ a;have hlb:=zJ b;generalize val a=A at*;generalize val b=B at*;intro hl;refine⟨λh=>?_,λh=>?_⟩
 ·exact absurd (yF.1 (XM.1 oM)) hb0
 refine wg (zCs _ _ oM oM) ?_;rw[zo,zo];refine⟨λh2=>?_,λh2=>?_⟩
 ·have hlt:=zel.1 h2;refine wg (zoc _ oM) ?_;rw[Kh hlt,Xy hlt,jZ];exact zbO (.cons zC (.C (.C .nil)))
 have hge:B<=A:=QY λh=>h2 (zel.2 h)
 intro hl2;refine⟨λh3=>?_,λh3=>?_⟩
 ·refine wb λx hx=>?_;have dx:=zV hx;have hxl:=x.isLt
  have hx1:zm B=[x]:=by
   have hx:(zm B)[0]?=some x:=hx;obtain⟨y,hy⟩:=J5.1 (show(zm B).length=1 by omega);rw[hy]at hx ⊢;simp at hx;rw[hx]
  have hB:x.val=B:=by
   have:=zo B;rw[hx1,vm,znX]at this;omega
  refine wg (n_one (zm A) x.val oM hxl oM) ?_;rw[zo,hB];have hm:=Kk A (show B > 0 by omega);exact wa<|wg (zeu (A%B) oM)<|.refl
 intro hl3;refine wa<|wb λx hx=>?_;rw[show(((zm B).length:Int)-1).toNat=(zm B).length-1 by omega]at hx;have dx:=zV hx;have hxl:=x.isLt;refine wg (zDy x.val hxl) ?_;have hn32:=zod hxl;obtain⟨s,hs⟩:∃s,32-kA x.val=s:=⟨_,rfl⟩;rw[hs];refine wg (zDA _ s oM oM)<|wg (zxK _ s oM oM) ?_;rw[zo,zo];obtain⟨hvl,hvt⟩:=zsc (B:=B) (s:=s) hb0 (by rw[dx];omega);refine⟨Dig,dgE,[0],rfl,Ob.mk (zhq 0) ?_⟩
 have hul:(zm (A*2^s)).length<=400000001:=XB (jM (k:=(zm A).length+1) (by
  have h1:=zcD (n:=A) (Xk _);have h2:2^s<=4294967296^1:=by rw[zbb];exact XH dC oM
  rw[Ke]
  exact Xw (KK h1 (KW dC)) (Kf _ h2))) oM
 refine⟨_,rfl,Ob.mk ⟨List.cons_ne_nil _ _,(by show((_:Int)+((1:Nat):Int))*((4:Nat):Int)<=_;omega),(by show _+1<=_;omega),dC,λ_ _=>rfl,λ_ _=>rfl⟩ ?_⟩;have hp0:0<2^s:=KW dC;have hmA:(zm A).length<=(zm (A*2^s)).length:=qm (QG _ hp0);have hmB:(zm (B*2^s)).length<=(zm (A*2^s)).length:=qm (Xv _ hge);have hV0:B*2^s≠0:=Yc hb0 oM;have eq1:A/B=A*2^s/(B*2^s):=(Yn _ _ hp0).symm
 have eq2:A%B=A*2^s%(B*2^s)/2^s:=by rw[Yo,Nat.mul_div_cancel _ hp0]
 rw[eq1,eq2];have hlb2:(zm B).length≠0/\(zm B).length≠1:=⟨oM,oM⟩;rw[←hvl]at hvt;clear eq1 eq2 hp0;generalize A*2^s=U at*;generalize B*2^s=V at*;refine⟨Unit,λ_=>⟨[(0,.sl dgE (zm A)),(9,i64 s),(10,.sl dgE (zm V)),(11,.own 0)],[(0,qr (zm U++[0]))],1,148,0⟩,λ_=>True,λ_=>0,(),tV,zf [1],?_⟩
 rintro⟨⟩ _
 intro hl4;intro hl5;have hll:(zm U++[0]).length=(zm U).length+1:=by simp
 refine⟨λh4=>?_,λ_=>?_⟩
 ·omega
 intro hl6;intro hl7;refine wa ?_;obtain⟨nq,hnq⟩:∃nq:Nat,nq+(zm V).length=(zm U).length+1:=⟨(zm U).length+1-(zm V).length,oM⟩;refine⟨Dig,dgE,0,rfl,wb7 ?_⟩;intro hl8;refine wa ?_;have hVn:V<4294967296^(zm V).length:=zcD (Xk _)
 refine⟨Nat×LB×LB,λ⟨j,q,u⟩=>⟨[(13,i64 ((j:Int)-1)),(12,.own 1),(11,.own 0),(10,.sl dgE (zm V)),(9,i64 s)],[(1,qr q),(0,qr u)],2,148,0⟩,
  λx=>x.1<=nq/\x.2.1.length=nq/\x.2.2.length=(zm U).length+1/\val (x.2.2.drop x.1)<V/\U=V*(4294967296^x.1*val (x.2.1.drop x.1))+val x.2.2,λx=>x.1,
  (nq,List.replicate nq 0,zm U++[0]),?_,?_,?_⟩
 ·refine⟨Xk _,sI,hll,?_,?_⟩
  ·dsimp only;have hz:val (zm U++[0])=U:=by rw[vn,zo];rfl
   rw[zjY,hz];have h1:=zcD (n:=U) (Xk _);have h2:=znY hV0;refine Xw ?_ h2;rw[XS (zdy _),←Ke];refine Xw h1 (XH dC oM)
  dsimp only;rw[z8 sI,Ko,Ko,vn,zo];show U=0+(U+_*0);omega
 ·exact zS [0,1] ⟨iR (by simp only[Ki];omega),rfl,rfl,rfl,rfl,tV⟩ ⟨Xg (λn=>some (qr (List.replicate n 0))) oM,rfl,tV⟩
 rintro⟨j,q,u⟩ ⟨g1,g2,g3,g4,g5⟩
 dsimp only at g1 g2 g3 g4 g5;refine⟨λk1=>?_,λk1=>?_⟩
 ·obtain⟨k,rfl⟩:∃k,j=k+1:=⟨j-1,oM⟩;rw[show(((k+1:Nat):Int)-1)=k by omega];obtain⟨r1,r2,r3,r4⟩:=zxL (k:=k) (n:=(zm V).length) oM oM hVn g4 g5;intro hl9;(iterate 2 refine wa ?_);refine Sl.win (Ob.mk oM ?_);have htl:(u.take k).length=k:=by rw[Xo];omega
  rw[show(((k+1:Nat):Int)-1+((zm V).length:Int)+1-(((k+1:Nat):Int)-1))=(((u.drop k).take ((zm V).length+1)).length:Nat) by rw[r1];omega,
   show(((k+1:Nat):Int)-1)=((u.take k).length:Nat) by omega]
  have hW:(u.drop ((u.take k).length:Int).toNat).take (((u.drop k).take ((zm V).length+1)).length:Int).toNat=(u.drop k).take ((zm V).length+1):=by
   rw[XT,XT,r1,htl]
  obtain⟨post,hpost⟩:∃post,u.drop (k+(zm V).length+1)=post:=⟨_,rfl⟩;obtain⟨pre,hpre⟩:∃pre,u.take k=pre:=⟨_,rfl⟩;rw[hpost,hpre]at r3 r4;rw[hpre]at htl hW;rw[hpre];obtain⟨hgc,_,_⟩:=zms (U:=(u.drop k).take ((zm V).length+1)) (V:=zm V) r1 oM hvt (by rw[zo];exact r2);rw[zo]at hgc;have cg:=zAH ((u.drop k).take ((zm V).length+1)) (zm V) oM r1 oM hvt (by rw[zo];exact r2);generalize zhC ((u.drop k).take ((zm V).length+1)) (zm V)=g at hgc cg;rw[←hW]at cg;refine wg cg ?_;clear cg hW
  generalize (u.drop k).take ((zm V).length+1)=W at*;have hD:val W/V<4294967296:=by rw[XS oM];exact r2
  have hpn:4294967296^((zm V).length+1)=4294967296^(zm V).length*4294967296:=XU ..;obtain⟨m1,m2,m3⟩:=zAJ (Bn:=4294967296^((zm V).length+1)) hgc (Ka hV0) oM;have hmod:=Kk (val W) (Ka hV0);have ct:=zDw pre W post (zm V) g r1 oM;rw[←r3,zo]at ct
  have htw:zpZ W (zm V) g=yc ((zm V).length+1) (if val W<g*V then val W%V+4294967296^((zm V).length+1)-V else val W%V):=by
   unfold zpZ;rw[zo,r1,m1]
  rw[htw]at ct;clear htw m1;refine zb.hand 0 _ _ _ rfl ct (qP _) (qP _) rfl rfl ?_;clear ct hgc;generalize val W/V=D at*;generalize val W%V=R at*;have hul2:u.length=pre.length+(W.length+post.length):=by rw[r3];simp
  refine⟨λk2=>?_,λk2=>?_⟩
  ·have hg:=m2 k2;rw[Xe k2];refine wa λhl10=>?_;obtain⟨w0,hw0⟩:∃w0,yc ((zm V).length+1) (R+4294967296^((zm V).length+1)-V)=w0:=⟨_,rfl⟩;have hw0l:w0.length=(zm V).length+1:=by rw[←hw0,yr]
   have hw0v:val w0=R+4294967296^((zm V).length+1)-V:=by rw[←hw0];exact ztO oM
   rw[hw0]
   refine⟨Nat×LB×Nat,λ⟨i,w,c⟩=>⟨[(105,i64 i),(104,i64 (zm V).length),(103,.sl dgE (zm V)),(16,u64 c),(15,u64 ((g:Int)-1)),(14,.win 0 1 (pre.length:Nat) (W.length:Nat)),(13,i64 (pre.length:Nat)),(12,.own 1),(11,.own 0),(10,.sl dgE (zm V)),(9,i64 s)],
     [(1,qr q),(0,qr (pre++(w++post)))],2,148,0⟩,
    λx=>x.1<=(zm V).length/\x.2.1.length=(zm V).length+1/\x.2.2<=1/\(∀j,x.1<=j->dig x.2.1 j=dig w0 j)/\val (x.2.1.take x.1)+4294967296^x.1*x.2.2=val (w0.take x.1)+val ((zm V).take x.1),
    λx=>(zm V).length-x.1,(0,w0,0),?_,?_,?_⟩
   ·exact⟨Xh _,hw0l,Xh _,λ_ _=>rfl,by simp[val]⟩
   ·exact zS [0,1] ⟨rfl,rfl,rfl,rfl,rfl,rfl,iR oM,rfl,rfl,rfl,rfl,tV⟩ ⟨rfl,rfl,tV⟩
   rintro⟨i,w,c⟩ ⟨f1,f2,f3,f4,f5⟩
   dsimp only at f1 f2 f3 f4 f5;have hlw:(pre++(w++post)).length=pre.length+(zm V).length+1+post.length:=by simp[f2];omega
   refine⟨λk3=>?_,λk3=>?_⟩
   ·refine wb λy(hy:(zm V)[i]?=some y)=>?_;have dy:=zV hy;have hyl:=y.isLt;refine wb6<|Ob.mk (by rw[hlw];omega) λz hz=>?_;have hz:w[i]?=some z:=by rw[←zi1 (pre:=pre) (post:=post) oM,←hz];congr 1
    have dz:=zV hz;have hzl:=z.isLt;(iterate 4 refine wa ?_);refine Ar.wrap<|wb6<|Ob.mk (by rw[hlw];omega) λz' hz'=>?_;refine⟨dof (c+(z.val+y.val)),Xg (λn=>[u32 n]) (by rw[zbc rfl];simp),?_⟩;refine wb1<|wa ?_
    refine⟨(i+1,w.set i (dof (c+(z.val+y.val))),(c+(z.val+y.val))/4294967296),⟨oN,by simp[f2],oN,λj hj=>?_,?_⟩,
     qF [(0,some 0),(1,some 1)] rfl rfl rfl ⟨rfl,rfl,rfl,Xg (λn=>some (u64 n)) (by simp only[Int.reducePow];omega),rfl,rfl,rfl,rfl,rfl,rfl,rfl,tV⟩
      ⟨rfl,Xg (λl=>some (qr l)) (by rw[←zi2 oM];congr 1),tV⟩,oN⟩
    ·dsimp only at hj ⊢;rw[jR,Xc oM];exact f4 j oM
    dsimp only;rw[zR,zR,zR,XU,dy,jR,Xe ⟨rfl,oM⟩,ky,←f4 i (Xk _),dz];have ht:(w.set i (dof (c+(z.val+y.val)))).take i=w.take i:=by rw[Q3 oM]
    rw[ht];have hd:=X8 (c+(z.val+y.val)) 4294967296;exact zDB f5 hd
   have hi:i=(zm V).length:=by omega
   subst hi;intro hl11;refine wb6<|Ob.mk (by rw[hlw];omega) λz hz=>?_;have hz:w[(zm V).length]?=some z:=by rw[←zi1 (pre:=pre) (post:=post) oM,←hz];congr 1
   have dz:=zV hz;have hzl:=z.isLt;refine wa<|Ar.wrap<|wb6<|Ob.mk (by rw[hlw];omega) λz' hz'=>?_;refine⟨dof (z.val+c),Xg (λn=>[u32 n]) (by rw[zbc rfl];simp),?_⟩
   have hw2:w.set (zm V).length (dof (z.val+c))=yc ((zm V).length+1) R:=by
    rw[←ztN (w.set _ _),XV,f2];congr 1;have e1:=kR w0 (zm V).length;have e3:=zG w0 (zm V).length;rw[z8 (show w0.length<=(zm V).length+1 by omega),Ko,XP]at e3;rw[e3,hw0v,hpn,←f4 _ (Xk _),dz]at e1;rw[kT (Xk (zm V).length),zo]at f5;have g2:=kR (w.set (zm V).length (dof (z.val+c))) (zm V).length;have g3:=zG (w.set (zm V).length (dof (z.val+c))) (zm V).length;have g0:val ((w.set (zm V).length (dof (z.val+c))).drop ((zm V).length+1))=0:=z8 (by rw[XV];omega)
    rw[g0,Ko,XP,jR,Xe ⟨rfl,oM⟩,ky]at g3;rw[g3,Q3 (Xk _)]at g2;rw[g2];obtain⟨n1,n2⟩:=zAK (R:=R) (qR w (zm V).length) hzl f3 (by rw[KE];omega);rw[n1,n2];rfl
   have hset:(pre++(w++post)).set (pre.length+(zm V).length) (dof (z.val+c))=pre++(yc ((zm V).length+1) R++post):=by
    rw[zi2 oM,hw2]
   obtain⟨e1,e2⟩:=r4 _ rfl (dof D) (by rw[ky,Xy hD]);refine wa<|wb<|wb λz2 hz2=>?_;refine⟨dof D,Xg (λn=>[u32 n]) (by rw[ky,Xy hD];omega),?_⟩;refine wa ?_
   refine⟨(k,q.set k (dof D),pre++(yc ((zm V).length+1) R++post)),⟨oN,by simp[g2],by simp[yr];omega,e1,e2⟩,
    zS [0,1] ⟨iR oM,rfl,rfl,rfl,rfl,tV⟩ ⟨Xg (λn=>some (qr (q.set n _))) oM,Xg (λl=>some (qr l)) (by rw[←hset];congr 1),tV⟩,oN⟩
  have hg:=m3 k2;rw[Xc k2];obtain⟨e1,e2⟩:=r4 _ rfl (dof D) (by rw[ky,Xy hD]);refine wa<|wb<|wb λz2 hz2=>?_;refine⟨dof D,Xg (λn=>[u32 n]) (by rw[ky,Xy hD];omega),?_⟩;refine wa ?_
  refine⟨(k,q.set k (dof D),pre++(yc ((zm V).length+1) R++post)),⟨oN,by simp[g2],by simp[yr];omega,e1,e2⟩,
   zS [0,1] ⟨iR oM,rfl,rfl,rfl,rfl,tV⟩ ⟨Xg (λn=>some (qr (q.set n _))) oM,rfl,tV⟩,oN⟩
 have hj:j=0:=by omega
 subst hj;rw[KY]at g4 g5;rw[Jj,Yt]at g5;refine zb.see 1 _ (jv _ oM) rfl rfl rfl<|wa<|zb.see 0 _ (zDz u s oM oM) rfl rfl rfl ?_
 have e1:val q=U/V:=by
  rw[g5,Qy oM,Kh g4,XP]
 have e2:val u=U%V:=by
  rw[g5,Qz,Xy g4]
 exact zbO (.cons (zZ (by rw[e1])) (.cons (zZ (by rw[e2])) (.C .nil)))
def n_gcd(a b:LB)(ha:a.length<=400000000)(hb:b.length<=400000000):
  CX 421 [.sl dgE a,.sl dgE b] (.sl dgE (zm (Nat.gcd (val a) (val b)))):=by
 refine zc func421<|wg (zah _ oM)<|wg (zah _ oM) ?_;have hla:=zJ a;have hlb:=zJ b
 refine⟨Nat×Nat,λ⟨A,B⟩=>⟨[(0,.sl dgE (zm A)),(1,.sl dgE (zm B))],[],0,25,0⟩,
  λx=>(zm x.1).length<=400000000/\(zm x.2).length<=400000000/\Nat.gcd x.1 x.2=Nat.gcd (val a) (val b),λx=>x.2,(val a,val b),?_,?_,?_⟩
 ·exact⟨oN,oN,rfl⟩
 ·exact zB []
 rintro⟨A,B⟩ ⟨h1,h2,h3⟩
 dsimp only at h1 h2 h3;intro hl;refine⟨λk=>?_,λk=>?_⟩
 ·have hB:B≠0:=jz.1 oM;refine wg (zkm (zm A) (zm B) oM oM (by rw[zo];exact hB)) ?_;rw[zo,zo];have hm:=Kk A (Ka hB);refine⟨(B,A%B),⟨h2,XB (qm (Yz hm)) h2,?_⟩,zB [],hm⟩;dsimp only;rw[←h3,QW B,QW A B,Nat.gcd_rec B A]
 have hB:B=0:=yF.1 (XM.1 oM);subst hB;rw[Nat.gcd_zero_right]at h3;exact zZ (by rw[h3])
def ze7(p:Prop)[i:Decidable p](m:LB)(hm:m.length<=1000000000):
  CX 386 [.pr p i,.sl dgE m] (wl (ofZ (if p then-(val m:Int) else val m))):=by
 refine zc func386<|wg (zah m hm) ?_;have hd:=jz (n:=val m);refine⟨λh=>?_,λh=>?_⟩
 ·intro hl;refine jj (.cons (zE ?_) (.cons (zZ ?_) .nil))
  ·rw[zaM,Xe h];omega
  rw[jS,Xe h];congr 1;omega
 refine jj (.cons (zd ?_) (.cons (zZ ?_) .nil))
 ·rw[zaM,Xc h];omega
 rw[jS,Xc h];congr 1
def zDC(m:LB)(hm:m.length<=1000000000):CX 386 [bl true,.sl dgE m] (wl (ofZ (-(val m:Int)))):=by
 have h:=(ze7 True m hm).args (.cons (zH trivial) LEs.refl)
 rwa [Xe trivial]at h
def zxM(m:LB)(hm:m.length<=1000000000):CX 386 [bl false,.sl dgE m] (wl (ofZ (val m:Int))):=by
 have h:=(ze7 False m hm).args (.cons (zd not_false) LEs.refl)
 rwa [Xc not_false]at h
def zxN(a:BI)(hm:a.mag.length<=1000000000):
  CX 386 [pr (a.neg=true),.sl dgE a.mag] (wl (ofZ a.v)):=ze7 (a.neg=true) a.mag hm
def zew(n:Int)(hn:R64 n):CX 331 [i64 n] (wl (ofZ n)):=by
 refine zc func331<|Br.mk (λh=>?_) (λh=>?_)
 ·refine Ar.wrap<|Ar.wrap ?_;have e:IntKind.u64.wrap (-IntKind.u64.wrap n)=((n.natAbs:Nat):Int):=by rw[yl,yl];omega
  rw[e];refine wg (zeu n.natAbs oM)<|wg (zDC (zm n.natAbs) (by have:=jk hn;unfold jm at this;omega)) ?_;rw[zo,show(-(n.natAbs:Int))=n by omega];exact .refl
 refine Ar.wrap ?_;have e:IntKind.u64.wrap n=((n.natAbs:Nat):Int):=by rw[yl];omega
 rw[e];refine wg (zeu n.natAbs oM)<|wg (zxM (zm n.natAbs) (by have:=jk hn;unfold jm at this;omega)) ?_;rw[zo,show(n.natAbs:Int)=n by omega];exact .refl
def zkn(a:BI)(ha:a.mag.length<=900000000):CX 384 [wl a] (i64 a.v.sign):=by
 refine zc func384<|wg (zp1 a.mag ha) ?_;have h1:=zbY (n:=val a.mag);have h2:=a.v_eq;refine⟨λh=>?_,λh=>?_⟩
 ·have:a.v=0:=by omega
  exact ze (by rw[this];rfl)
 refine⟨λh3=>?_,λh3=>?_⟩
 ·refine ze (Kg ?_).symm
  obtain⟨e1,e2⟩|⟨e1,e2⟩:=h2
  ·omega
  rw[e1]at h3;cases h3
 refine ze (Kn ?_).symm
 obtain⟨e1,e2⟩|⟨e1,e2⟩:=h2
 ·exact absurd e1 h3
 omega
def z_neg(a:BI)(ha:a.mag.length<=1000000000):CX 446 [wl a] (wl (ofZ (-a.v))):=by
 refine zc func446<|wg (ze7 (¬a.neg=true) a.mag ha) ?_
 have:(if¬a.neg=true then-(val a.mag:Int) else(val a.mag:Int))= -a.v:=by
  obtain⟨h1,h2⟩|⟨h1,h2⟩:=a.v_eq <;> simp[h1,h2]
 rw[this];exact .refl
def zCv(a b:BI)(ha:a.mag.length<=800000000)(hb:b.mag.length<=800000000):CX 363 [wl a,wl b] (wl (ofZ (a.v+b.v))):=by
 refine zc func363<|Br.mk (λh=>?_) (λh=>?_)
 ·refine wc<|wg (zCt a.mag b.mag oM oM) ?_;have hl:=zb1 ha hb;refine wg (ze7 (a.neg=true) _ oM) ?_
  have:(if a.neg=true then-(val (zm (val a.mag+val b.mag)):Int) else(val (zm (val a.mag+val b.mag)):Int))=a.v+b.v:=by
   rw[zo]
   obtain⟨h1,h2⟩|⟨h1,h2⟩:=a.v_eq <;> obtain⟨h3,h4⟩|⟨h3,h4⟩:=b.v_eq <;> simp[h1,h3]at h <;> simp[h1,h2,h4] <;> omega
  rw[this];exact .refl
 refine wg (zCu a.mag b.mag oM oM) ?_;have hl:(zm (val a.mag-val b.mag)).length<=1000000000:=XB (qm (Yy _ _)) (XB (zJ _) oM);have hl2:(zm (val b.mag-val a.mag)).length<=1000000000:=XB (qm (Yy _ _)) (XB (zJ _) oM);refine⟨λh2=>?_,λh2=>?_⟩
 ·refine wg (ze7 (a.neg=true) _ hl) ?_
  have:(if a.neg=true then-(val (zm (val a.mag-val b.mag)):Int) else(val (zm (val a.mag-val b.mag)):Int))=a.v+b.v:=by
   rw[zo]
   obtain⟨h1,h2⟩|⟨h1,h2⟩:=a.v_eq <;> obtain⟨h3,h4⟩|⟨h3,h4⟩:=b.v_eq <;> simp[h1,h3]at h <;> simp[h1,h2,h4] <;> omega
  rw[this];exact .refl
 refine wg (zCu b.mag a.mag oM oM)<|wg (ze7 (b.neg=true) _ hl2) ?_
 have:(if b.neg=true then-(val (zm (val b.mag-val a.mag)):Int) else(val (zm (val b.mag-val a.mag)):Int))=a.v+b.v:=by
  rw[zo]
  obtain⟨h1,h2⟩|⟨h1,h2⟩:=a.v_eq <;> obtain⟨h3,h4⟩|⟨h3,h4⟩:=b.v_eq <;> simp[h1,h3]at h <;> simp[h3,h2,h4] <;> omega
 rw[this];exact .refl
def zT(z:Int):(ofZ z).mag.length=jm z:=rfl
def zp2(a b:BI)(ha:a.mag.length<=800000000)(hb:b.mag.length<=800000000):CX 385 [wl a,wl b] (wl (ofZ (a.v-b.v))):=by
 refine zc func385<|wc<|wg (z_neg b oM) ?_;have h1:=zau b;refine wg (zCv a (ofZ (-b.v)) oM (by rw[zT,zac];omega)) ?_;rw[zY,←Q7];exact .refl
def zit(a b:BI)(ha:a.mag.length<=400000000)(hb:b.mag.length<=400000000):CX 383 [wl a,wl b] (wl (ofZ (a.v*b.v))):=by
 refine zc func383<|wc<|wg (n_mul a.mag b.mag ha hb) ?_
 have hl:(zm (val a.mag*val b.mag)).length<=1000000000:=by
  refine XB (jM (k:=a.mag.length+b.mag.length) ?_) oM;rw[Ke];exact K9 (q9 _) (q9 _)
 refine wg (ze7 (¬(a.neg=true↔b.neg=true)) _ hl) ?_;rw[zo,zCp];exact .refl
def zp3(a:BI)(ha:a.mag.length<=900000000):CX 326 [wl a] (i64 (kA a.v.natAbs)):=by
 refine zc func326<|wg (zp1 a.mag ha) ?_;rw[←a.v_abs];exact .refl
def zxO{a b:Int}(hb:0<b):a/b=if a<0 then-((a.natAbs/b.natAbs+(if a.natAbs%b.natAbs=0 then 0 else 1):Nat):Int) else((a.natAbs/b.natAbs:Nat):Int):=by
 have hdm:=X8 a.natAbs b.natAbs;have hm:=Kk a.natAbs (show b.natAbs > 0 by omega);generalize a.natAbs/b.natAbs=q at*;generalize a.natAbs%b.natAbs=r at*;have e:(b:Int)*(q:Int)=((b.natAbs*q:Nat):Int):=by rw[X3];congr 1;omega
 by_cases h:a<0
 ·rw[Xe h]
  by_cases h0:r=0
  ·rw[Xe h0,XP];exact((Qf hb).2 ⟨(by rw[QS,e];omega:(0:Int)+b*(-(q:Int))=a),oM,hb⟩).1
  rw[Xc h0];exact((Qf hb (r:=b-r)).2 ⟨by rw[QS,QK,Q9,e];omega,oM,oM⟩).1
 rw[Xc h];exact((Qf hb (r:=r)).2 ⟨by rw[e];omega,oM,oM⟩).1
def zko(p:Prop)[i:Decidable p]:CG0 420 [.pr p i] [] (.fn 471 [.loc 0 0]) [(0,.box 4 [.pr p i])]:=by
 exact qC tok mix func420 rfl rfl rfl<|⟨some 0,zAt (.cons (.loc 0 0 rfl) .nil),rfl,rfl⟩
def zhD(p:Prop)[i:Decidable p](m:LB)(hm:m.length<=1000000000):
  CX 471 [.sl dgE m,.ptr [.pr p i]] (wl (ofZ (if p then-(val m:Int) else val m))):=by
 exact zc func471<|wg (ze7 p m hm)<|.refl
def zxP(a b:BI)(ha:a.mag.length<=200000000)(hb:b.mag.length<=200000000)(h0:0<b.v):
  CX 361 [wl a,wl b] (.tup [wl (ofZ (a.v/b.v)),wl (ofZ (a.v%b.v)),i64 0]):=by
 refine zc func361<|wc<|wg (zxN a oM)<|wg (zxN b oM) ?_;have la:=zau a;have lb:=zau b;refine wg (zkm (zm a.v.natAbs) (zm b.v.natAbs) (by unfold jm at la;omega) (by unfold jm at lb;omega) (by rw[zo];omega)) ?_;rw[zo,zo];refine⟨λh=>absurd rfl h,λ_=>?_⟩;have hza:=zaM a.v;have hzb:=zaM b.v;have hq:=zxO (a:=a.v) h0;have hm:=Int.emod_def a.v b.v
 have zq:jm (a.v/b.v)<=jm a.v:=zb0 (by
  have:=QZ a.v b.v
  exact this)
 have zp:=kZ (a.v/b.v) b.v;have neg1:a.v<0->¬((ofZ a.v).neg=true↔(ofZ b.v).neg=true):=λh=>by rw[hza,hzb];omega
 have neg2:¬a.v<0->¬¬((ofZ a.v).neg=true↔(ofZ b.v).neg=true):=λh=>by rw[hza,hzb];omega
 have q1:(zm (a.v.natAbs/b.v.natAbs)).length<=200000000:=XB (qm (K2 _ _)) (by unfold jm at la;omega);refine⟨λh1=>?_,λh1=>?_⟩
 ·have hneg:a.v<0:=XN λh=>neg2 h h1
  intro hl;refine⟨λh2=>?_,λh2=>?_⟩
  ·have hr:a.v.natAbs%b.v.natAbs≠0:=jz.1 oM;refine wg (zeu 1 dC)<|wg (zCt _ _ oM (by decide +kernel)) ?_;rw[zo,zo];rw[Xe hneg,Xc hr]at hq;have ql:=zb1 (a:=zm (a.v.natAbs/b.v.natAbs)) (b:=zm 1) q1 (by decide +kernel);rw[zo,zo]at ql;refine zb.fresh _ _ (zko (¬((ofZ a.v).neg=true↔(ofZ b.v).neg=true))) rfl rfl (.inr rfl)<|wg (zhD _ (zm (a.v.natAbs/b.v.natAbs+1)) oM) ?_;rw[zo,Xe h1,←hq];refine wc<|wg (zit (ofZ (a.v/b.v)) (ofZ b.v) (by rw[zT];omega) (by rw[zT];omega)) ?_
   refine wg (zp2 (ofZ a.v) (ofZ ((ofZ (a.v/b.v)).v*(ofZ b.v).v)) (by rw[zT];omega) (by rw[zT,zY,zY];omega)) ?_;rw[zY,zY,zY,zY,QU (a.v/b.v),←hm];exact .refl
  have hr:a.v.natAbs%b.v.natAbs=0:=yF.1 (XM.1 oM);rw[Xe hneg,Xe hr,XP]at hq;refine zb.fresh _ _ (zko (¬((ofZ a.v).neg=true↔(ofZ b.v).neg=true))) rfl rfl (.inr rfl)<|wg (zhD _ (zm (a.v.natAbs/b.v.natAbs)) oM) ?_;rw[zo,Xe h1,←hq];refine wc<|wg (zit (ofZ (a.v/b.v)) (ofZ b.v) (by rw[zT];omega) (by rw[zT];omega))<|wg (zp2 (ofZ a.v) (ofZ ((ofZ (a.v/b.v)).v*(ofZ b.v).v)) (by rw[zT];omega) (by rw[zT,zY,zY];omega)) ?_;rw[zY,zY,zY,zY,QU (a.v/b.v),←hm]
  exact .refl
 have hneg:¬a.v<0:=λh=>h1 (neg1 h)
 rw[Xc hneg]at hq;refine zb.fresh _ _ (zko (¬((ofZ a.v).neg=true↔(ofZ b.v).neg=true))) rfl rfl (.inr rfl)<|wg (zhD _ (zm (a.v.natAbs/b.v.natAbs)) oM) ?_;rw[zo,Xc h1,←hq];refine wc<|wg (zit (ofZ (a.v/b.v)) (ofZ b.v) (by rw[zT];omega) (by rw[zT];omega))<|wg (zp2 (ofZ a.v) (ofZ ((ofZ (a.v/b.v)).v*(ofZ b.v).v)) (by rw[zT];omega) (by rw[zT,zY,zY];omega)) ?_;rw[zY,zY,zY,zY,QU (a.v/b.v),←hm];exact .refl
def zDD(a b:LB)(ha:a.length<=400000000)(hb:b.length<=400000000):
  CX 236 [.sl dgE a,.sl dgE b] (.sl dgE (zm (Nat.gcd (val a) (val b)))):=by
 refine zc func236<|wg (uF _ oM)<|wg (uF _ oM) ?_;have hla:=zJ a;have hlb:=zJ b
 refine⟨Nat×Nat,λ⟨A,B⟩=>⟨[(5,.sl dgE (zm A)),(6,.sl dgE (zm B))],[],0,27,0⟩,
  λx=>(zm x.1).length<=400000000/\(zm x.2).length<=400000000/\Nat.gcd x.1 x.2=Nat.gcd (val a) (val b),λx=>x.2,(val a,val b),?_,?_,?_⟩
 ·exact⟨oN,oN,rfl⟩
 ·exact zB []
 rintro⟨A,B⟩ ⟨h1,h2,h3⟩
 dsimp only at h1 h2 h3;intro hl;refine⟨λk=>?_,λk=>?_⟩
 ·have hB:B≠0:=jz.1 oM;refine wg (zhs (zm A) (zm B) oM oM (by rw[zo];exact hB)) ?_;rw[zo,zo];have hm:=Kk A (Ka hB);refine⟨(B,A%B),⟨h2,XB (qm (Yz hm)) h2,?_⟩,zB [],hm⟩;dsimp only;rw[←h3,QW B,QW A B,Nat.gcd_rec B A]
 have hB:B=0:=yF.1 (XM.1 oM);subst hB;rw[Nat.gcd_zero_right]at h3;exact zZ (by rw[h3])
def zAL(m:LB)(hm:m.length<=1000000000):CX 235 [bl false,.sl dgE m] (wl (ofZ (val m))):=by
 have:=(zav False m hm).args (.cons (zd id) (.C .nil))
 rwa [Xc id]at this
def zoe(a:BI)(hm:a.mag.length<=1000000000):CX 237 [wl a] (wl (ofZ (-a.v))):=by
 refine zc func237<|wg (zav (¬a.neg=true) a.mag hm) ?_
 have:(if¬a.neg=true then-(val a.mag:Int) else(val a.mag:Int))= -a.v:=by
  obtain⟨h1,h2⟩|⟨h1,h2⟩:=a.v_eq <;> simp[h1,h2]
 rw[this];exact .refl
def zsd(a b:BI)(ha:a.mag.length<=800000000)(hb:b.mag.length<=800000000):CX 299 [wl a,wl b] (wl (ofZ (a.v+b.v))):=by
 refine zc func299<|Br.mk (λh=>?_) (λh=>?_)
 ·refine wc<|wg (ziX a.mag b.mag oM oM) ?_;have hl:=zb1 ha hb;refine wg (zav (a.neg=true) _ oM) ?_
  have:(if a.neg=true then-(val (zm (val a.mag+val b.mag)):Int) else(val (zm (val a.mag+val b.mag)):Int))=a.v+b.v:=by
   rw[zo]
   obtain⟨h1,h2⟩|⟨h1,h2⟩:=a.v_eq <;> obtain⟨h3,h4⟩|⟨h3,h4⟩:=b.v_eq <;> simp[h1,h3]at h <;> simp[h1,h2,h4] <;> omega
  rw[this];exact .refl
 refine wg (znZ a.mag b.mag oM oM) ?_;have hl:(zm (val a.mag-val b.mag)).length<=1000000000:=XB (qm (Yy _ _)) (XB (zJ _) oM);have hl2:(zm (val b.mag-val a.mag)).length<=1000000000:=XB (qm (Yy _ _)) (XB (zJ _) oM);refine⟨λh2=>?_,λh2=>?_⟩
 ·refine wg (zav (a.neg=true) _ hl) ?_
  have:(if a.neg=true then-(val (zm (val a.mag-val b.mag)):Int) else(val (zm (val a.mag-val b.mag)):Int))=a.v+b.v:=by
   rw[zo]
   obtain⟨h1,h2⟩|⟨h1,h2⟩:=a.v_eq <;> obtain⟨h3,h4⟩|⟨h3,h4⟩:=b.v_eq <;> simp[h1,h3]at h <;> simp[h1,h2,h4] <;> omega
  rw[this];exact .refl
 refine wg (znZ b.mag a.mag oM oM)<|wg (zav (b.neg=true) _ hl2) ?_
 have:(if b.neg=true then-(val (zm (val b.mag-val a.mag)):Int) else(val (zm (val b.mag-val a.mag)):Int))=a.v+b.v:=by
  rw[zo]
  obtain⟨h1,h2⟩|⟨h1,h2⟩:=a.v_eq <;> obtain⟨h3,h4⟩|⟨h3,h4⟩:=b.v_eq <;> simp[h1,h3]at h <;> simp[h3,h2,h4] <;> omega
 rw[this];exact .refl
def zxQ(a b:BI)(ha:a.mag.length<=800000000)(hb:b.mag.length<=800000000):CX 275 [wl a,wl b] (wl (ofZ (a.v-b.v))):=by
 refine zc func275<|wc<|wg (zoe b oM) ?_;have h1:=zau b;refine wg (zsd a (ofZ (-b.v)) oM (by rw[zT,zac];omega)) ?_;rw[zY,←Q7];exact .refl
def zmt(a:BI)(ha:a.mag.length<=900000000):CX 274 [wl a] (i64 (kA a.v.natAbs)):=by
 refine zc func274<|wg (zmi a.mag ha) ?_;rw[BI.v_abs];exact .refl
def zDE{A B:Nat}(hB:0<B):(A%B=0-> -(A:Int)/B= -((A/B:Nat):Int)/\ -(A:Int)%B= -((A%B:Nat):Int))/\(A%B≠0-> -(A:Int)/B= -((A/B:Nat):Int)-1/\ -(A:Int)%B= -((A%B:Nat):Int)+B):=by
 have hdm:=X8 A B;have hm:=Kk A hB;generalize A/B=q at*;generalize A%B=r at*;have e:(B:Int)*(q:Int)=((B*q:Nat):Int):=(X3 _ _).symm;have hB':(0:Int)<B:=oM;refine⟨λh=>(Qf hB').2 ⟨?_,oM,oM⟩,λh=>(Qf hB').2 ⟨?_,oM,oM⟩⟩
 ·rw[QS,e];omega
 rw[Int.mul_sub,QS,e,Int.mul_one];omega
def zb6(a b:BI)(ha:a.mag.length<=200000000)(hb:b.mag.length<=200000000)(h0:0<b.v):
  CX 238 [wl a,wl b] (.tup [wl (ofZ (a.v/b.v)),wl (ofZ (a.v%b.v)),i64 0]):=by
 have hbv:b.neg=false/\b.v=(val b.mag:Int):=by
  obtain⟨h1,h2⟩|h:=b.v_eq
  ·omega
  exact h
 have hB:0<val b.mag:=oM;have q1:(zm (val a.mag/val b.mag)).length<=200000000:=XB (qm (K2 _ _)) (XB (zJ _) ha);have r1:(zm (val a.mag%val b.mag)).length<=200000000:=XB (qm (Nat.mod_le _ _)) (XB (zJ _) ha);have nb:¬b.neg=true:=by rw[hbv.1];decide
 refine zc func238<|wg (zcE b oM)<|⟨λh=>absurd (KR.1 h) oM,λ_=>?_⟩;refine wg (zhs a.mag b.mag oM oM oM)<|wg (zav (¬(a.neg=true↔b.neg=true)) _ oM)<|wg (zav (a.neg=true) _ oM) ?_;rw[zo,zo]
 obtain⟨h1,h2⟩|⟨h1,h2⟩:=a.v_eq
 ·have pa:¬(a.neg=true↔b.neg=true):=by rw[h1,hbv.1];decide
  rw[Xe pa,Xe h1];refine⟨λh3=>?_,λh3=>absurd pa h3⟩;have nd:=zDE (A:=val a.mag) hB;rw[←h2,←hbv.2]at nd;have k1:jm (-((val a.mag/val b.mag:Nat):Int))<=200000000:=by rw[zac];exact q1
  have k2:jm (-((val a.mag%val b.mag:Nat):Int))<=200000000:=by rw[zac];exact r1
  refine wg (zcE (ofZ (-((val a.mag%val b.mag:Nat):Int))) (by rw[zT];omega)) ?_;rw[zY];refine⟨λh4=>?_,λh4=>?_⟩
  ·have hr:val a.mag%val b.mag≠0:=λh=>h4 (by rw[h];rfl)
   refine wc<|wg (jN 1 dC)<|wg (zxQ (ofZ (-((val a.mag/val b.mag:Nat):Int))) (ofZ 1) (by rw[zT];omega) (by decide +kernel))<|wg (zsd (ofZ (-((val a.mag%val b.mag:Nat):Int))) b (by rw[zT];omega) oM) ?_;rw[zY,zY,zY,(nd.2 hr).1,(nd.2 hr).2];exact .refl
  have hr:val a.mag%val b.mag=0:=by
   have:(-((val a.mag%val b.mag:Nat):Int))=0:=KR.1 (Xa.1 h4);omega
  refine wd<|wh ?_;rw[←(nd.1 hr).1,←(nd.1 hr).2];exact .refl
 have pa:¬¬(a.neg=true↔b.neg=true):=by rw[h1,hbv.1];decide
 have na:¬a.neg=true:=by rw[h1];decide
 rw[Xc pa,Xc na];refine⟨λh3=>absurd h3 pa,λh3=>?_⟩;refine wd<|wh ?_;rw[h2,hbv.2,←J0,←QV];exact .refl
def ztQ(a:BI)(ha:a.mag.length<=1000000000):
  CX 306 [wl a] (.tup [i64 (y4 a.v),pr (-9223372036854775808<=a.v/\a.v<=9223372036854775807)]):=by
 refine zc func306<|wg (zah a.mag ha) ?_;have hl0:=zJ a.mag;have hv:=a.v_eq;generalize hz:a.v=z at*;have hv':z= -(val a.mag:Int)∨z=(val a.mag:Int):=hv.imp YC YC
 have bad:¬(-9223372036854775808<=z/\z<=9223372036854775807)->LE (.tup [i64 0,bl false]) (.tup [i64 (y4 z),pr (-9223372036854775808<=z/\z<=9223372036854775807)]):=λh=>
  zM (ze (by rw[y4,Xc h])) (zd h)
 have good:∀n:Int,n=z-> -9223372036854775808<=z/\z<=9223372036854775807->LE (.tup [i64 n,bl true]) (.tup [i64 (y4 z),pr (-9223372036854775808<=z/\z<=9223372036854775807)]):=λn hn h=>
  zM (ze (by rw[y4,Xe h,hn])) (zH h)
 obtain⟨m,hm⟩:∃m,zm (val a.mag)=m:=⟨_,rfl⟩;have hmv:val m=val a.mag:=by rw[←hm,zo]
 have hbig:2<m.length->18446744073709551616<=val a.mag:=λh=>by
  have h0:val a.mag≠0:=jz.1 (by rw[hm];omega);have:=znY h0;rw[hm]at this;exact XB (XB dC (XH dC (show 2<=m.length-1 by omega))) this
 rw[hm];rw[hm]at hl0;intro hl1;refine wa ?_
 refine⟨Nat,λj=>⟨[(6,i64 ((j:Int)-1)),(5,u64 (val (m.drop j))),(4,.sl dgE m),(1,.loc 0 0)],[(0,.box 53 (biE a))],1,55,0⟩,
  λj=>j<=m.length/\(j<m.length->m.length<=2),λj=>j,m.length,?_,?_,?_⟩
 ·exact⟨Xk _,λh=>absurd h (Yx _)⟩
 ·exact zS [0] ⟨rfl,Xg (λn=>some (u64 n)) (by rw[z8 (Xk _)];rfl),rfl,rfl,tV⟩ ⟨rfl,tV⟩
 rintro j ⟨h1,h2⟩
 refine⟨λh3=>?_,λh3=>?_⟩
 ·intro hl2;refine⟨λh4=>?_,λh4=>?_⟩
  ·have hd:=zG m (j-1);rw[show j-1+1=j by omega]at hd
   have hdl:val (m.drop j)<4294967296:=by
    have:=q9 (m.drop j);rw[Kv]at this;exact Xw this (XB (XH dC (show m.length-j<=1 by omega)) dC)
   refine wb1<|Ar.fit (by simp only[Int.reducePow];omega)<|wb λx hx=>?_;rw[show((j:Int)-1).toNat=j-1 by omega]at hx;have dx:=zV hx;have hxl:=x.isLt;refine wa<|⟨_,(zgA (x:=val (m.drop j)) (y:=x.val) hdl hxl rfl).symm,?_⟩;exact wa<|⟨j-1,⟨oM,λ_=>by omega⟩,zS [0] ⟨iR oM,Xg (λn=>some (u64 n)) (by rw[hd,dx];omega),rfl,rfl,tV⟩ ⟨rfl,tV⟩,oN⟩
  intro hl3;have:=hbig oM;refine⟨λ_=>?_,λh=>absurd h oM⟩;exact bad oM
 have hj:j=0:=by omega
 subst hj;have hd0:val (m.drop 0)=val a.mag:=by rw[KY,hmv]
 intro hl3
 have hv2:¬2<m.length->val a.mag<18446744073709551616:=λh=>by
  have:=q9 m;rw[hmv]at this;exact Xw this (XB (XH dC (show m.length<=2 by omega)) dC)
 refine⟨λh=>?_,λh=>?_⟩
 ·have:=hbig oM;exact bad oM
 have hs:=hv2 oM;have negz:a.neg=true->z= -(val a.mag:Int):=λh=>hv.elim YC λg=>by rw[h]at g;cases g.1
 have posz:¬a.neg=true->z=(val a.mag:Int):=λh=>hv.elim (λg=>absurd g.1 h) YC
 have hneg:a.neg=true->val a.mag<=9223372036854775808->IntKind.i64.wrap (IntKind.u64.wrap (-(val (m.drop 0):Int)))=z:=λh hle=>by
  have:=negz h;rw[hd0,yl];show IntKind.i64.wrap _=_;simp only[IntKind.wrap,IntKind.bits,IntKind.signed];simp;omega
 refine⟨λg1=>bad oM,λg1=>?_⟩;refine⟨λg2=>?_,λg2=>?_⟩
 ·refine⟨λg3=>bad ?_,λg3=>?_⟩
  ·have:=posz g3;omega
  have hn:a.neg=true:=XN g3;have:=negz hn;refine⟨λ_=>?_,λg4=>absurd hn g4⟩;exact Ar.wrap<|Ar.wrap<|good _ (hneg hn oM) oM
 refine⟨λg4=>?_,λg4=>?_⟩
 ·have:=negz g4;exact Ar.wrap<|Ar.wrap<|good _ (hneg g4 oM) oM
 have:=posz g4;exact wa<|good _ oM oM
structure BR where
 num:BI
 den:BI
 deriving DecidableEq
def BR.v(a:BR):Rat:=Rat.divInt a.num.v a.den.v
def ofQ(q:Rat):BR:=⟨ofZ q.num,ofZ q.den⟩
def kv(q:Rat):(ofQ q).v=q:=by unfold BR.v ofQ;rw[zY,zY,Qd]
def BR.len(a:BR):Nat:=max a.num.mag.length a.den.mag.length
def yV(q:Rat):Nat:=max (jm q.num) (jm q.den)
def zF(q:Rat):(ofQ q).len=yV q:=rfl
def zkp{n d:Int}(hd:d≠0):(if n.sign*d.sign<0 then-((n.natAbs/Nat.gcd n.natAbs d.natAbs:Nat):Int) else((n.natAbs/Nat.gcd n.natAbs d.natAbs:Nat):Int))=(Rat.divInt n d).num:=by
 have hg0:0<Nat.gcd n.natAbs d.natAbs:=Q5 _ oM;rw[Rat.num_divInt,show d.gcd n=Nat.gcd n.natAbs d.natAbs from QW _ _];obtain⟨k,hk⟩:((Nat.gcd n.natAbs d.natAbs:Nat):Int) ∣ n:=Int.ofNat_dvd_left.2 (Nat.gcd_dvd_left _ _);generalize Nat.gcd n.natAbs d.natAbs=g at*;have e1:n.natAbs/g=k.natAbs:=by rw[hk,QE,QH,Nat.mul_div_cancel_left _ hg0]
 have e2:d.sign*n/(g:Int)=d.sign*k:=by
  rw[hk,←JU,QU d.sign,JU,Int.mul_ediv_cancel_left _ oM]
 have e3:n.sign=k.sign:=by rw[hk,Int.sign_mul,Kn oM,JR]
 rw[e1,e2,e3]
 rcases K7 d 0 with h|h|h
 ·rw[Kg h]
  rcases K7 k 0 with h'|h'|h'
  ·rw[Kg h',Xc dC];omega
  ·subst h';rw[Xc dC];rfl
  rw[Kn h',Xe dC];omega
 ·exact absurd h hd
 rw[Kn h]
 rcases K7 k 0 with h'|h'|h'
 ·rw[Kg h',Xe dC];omega
 ·subst h';rw[Xc dC];rfl
 rw[Kn h',Xc dC];omega
def zkq{n d:Int}(hd:d≠0):(Rat.divInt n d).den=d.natAbs/Nat.gcd n.natAbs d.natAbs:=by
 rw[Rat.den_divInt,Xc hd,show d.gcd n=Nat.gcd n.natAbs d.natAbs from QW _ _]
def zdO{n d:Int}(hd:d≠0):yV (Rat.divInt n d)<=max (jm n) (jm d):=by
 have h1:jm (Rat.divInt n d).num<=jm n:=zb0 (by
  rw[←zkp hd];have:=K2 n.natAbs (Nat.gcd n.natAbs d.natAbs);generalize n.natAbs/Nat.gcd n.natAbs d.natAbs=x at*
  split <;> omega)
 have h2:jm (Rat.divInt n d).den<=jm d:=zb0 (by
  rw[zkq hd];have:=K2 d.natAbs (Nat.gcd n.natAbs d.natAbs);generalize d.natAbs/Nat.gcd n.natAbs d.natAbs=x at*
  omega)
 unfold yV;omega
def qu(q:Rat):jm q.num<=yV q:=Q6 _ _
def qN(q:Rat):jm q.den<=yV q:=QX _ _
def zO(a:BR):yV a.v<=max a.len 1:=by
 by_cases h:a.den.v=0
 ·have:a.v=0:=by unfold BR.v;rw[h,Ye]
  rw[this];have:yV 0<=1:=by decide +kernel
  omega
 have:=zdO (n:=a.num.v) h;have h1:=zau a.num;have h2:=zau a.den;unfold BR.len BR.v;omega
def zhE(q:Rat):(q.den:Int)≠0:=by have:=q.den_nz;omega
def zkr(x y:Rat):Rat.divInt (x.num*y.den+y.num*x.den) (x.den*y.den)=x+y:=by
 have:=Yq x.num y.num (zhE x) (zhE y);rw[Qd,Qd]at this;exact this.symm
def zks(x y:Rat):Rat.divInt (x.num*y.num) (x.den*y.den)=x*y:=by
 have:=Rat.divInt_mul_divInt x.num y.num (d₁:=x.den) (d₂:=y.den);rw[Qd,Qd]at this;exact this.symm
def zxR(x y:Rat):Rat.divInt (x.num*y.den-y.num*x.den) (x.den*y.den)=x-y:=by
 have:=Yq x.num (-y.num) (zhE x) (zhE y);rw[Qd,←Rat.neg_divInt,Qd,Int.neg_mul,←Q7]at this;rw[←this,JM]
def uX(x y:Rat):(x.den:Int)*(y.den:Int)≠0:=Int.mul_ne_zero (zhE x) (zhE y)
def zbg(x y:Rat):yV (x+y)<=yV x+yV y+1:=by
 rw[←zkr];have h:=zdO (n:=x.num*y.den+y.num*x.den) (uX x y);have h1:=zgn (x.num*y.den) (y.num*x.den);have h2:=kZ x.num y.den;have h3:=kZ y.num x.den;have h4:=kZ x.den y.den;have a1:=qu x;have a2:=qu y;have a3:=qN x;have a4:=qN y;omega
def yH(x y:Rat):yV (x*y)<=yV x+yV y:=by
 rw[←zks];have h:=zdO (n:=x.num*y.num) (uX x y);have h2:=kZ x.num y.num;have h4:=kZ x.den y.den;have a1:=qu x;have a2:=qu y;have a3:=qN x;have a4:=qN y;omega
def zdP(z:Int):yV z<=max (jm z) 1:=by
 unfold yV;rw[Yf,Yd];have:jm ((1:Nat):Int)=1:=by decide +kernel
 omega
def brE(a:BR):LR:=biE a.num++biE a.den
def zmu(a:BI)(g:LB)(ha:a.mag.length<=400000000)(hg:g.length<=400000000)(h0:val g≠0):
  CX 422 [wl a,.ptr [.sl dgE g]] (.sl dgE (zm (val a.mag/val g))):=by
 exact zc func422<|wg (zkm a.mag g ha hg h0)<|.refl
def zgB(n d:BI)(hn:n.mag.length<=400000000)(hd:d.mag.length<=400000000)(h0:d.v≠0):
  CX 362 [wl n,wl d] (.agg (brE (ofQ (Rat.divInt n.v d.v)))):=by
 refine zc func362<|wg (n_gcd n.mag d.mag hn hd) ?_;have e1:=zkp (n:=n.v) h0;have e2:=zkq (n:=n.v) h0;rw[n.v_abs,d.v_abs]at e1 e2;have hdz:val d.mag≠0:=by rw[←d.v_abs];omega
 have hg0:0<Nat.gcd (val n.mag) (val d.mag):=Q5 _ oM
 have hgl:(zm (Nat.gcd (val n.mag) (val d.mag))).length<=400000000:=by
  refine XB (qm (Nat.gcd_le_right _ oM)) (XB (zJ _) hd)
 have l1:(zm (val n.mag/Nat.gcd (val n.mag) (val d.mag))).length<=1000000000:=XB (qm (K2 _ _)) (XB (zJ _) oM);have l2:(zm (val d.mag/Nat.gcd (val n.mag) (val d.mag))).length<=1000000000:=XB (qm (K2 _ _)) (XB (zJ _) oM);generalize Nat.gcd (val n.mag) (val d.mag)=g at*
 have s1: -1<=n.v.sign*d.v.sign/\n.v.sign*d.v.sign<=1:=by
  rcases K7 n.v 0 with h|h|h <;> rcases K7 d.v 0 with h'|h'|h' <;>
   simp[Kg,Kn,h,h']
 refine wc<|wg (zkn n oM)<|wg (zkn d oM)<|wa<|wg (zmu n (zm g) hn hgl (by rw[zo];omega)) ?_;rw[zo];refine wg (ze7 (n.v.sign*d.v.sign<0) _ l1)<|wg (zmu d (zm g) hd hgl (by rw[zo];omega))<|wg (zxM _ (by rw[zo];exact l2)) ?_;rw[zo,zo,zo,e1,←e2];exact .refl
abbrev wm(x:BR):SV:=.agg (brE x)
end Go.Gs
