/- Natural numbers, the program's: quotient and remainder. -/
import Derived.Test.YtbgnkgoiocjbnaaGreatMA
import Derived.Test.YtbgnkgoiocjbnaaGreatMAZ
import Derived.Test.YtbgnkgoiocjbnaaGreatMAS
set_option maxRecDepth 100000
set_option maxHeartbeats 8000000
set_option linter.all false
namespace Go.Gs
open Go.Proofs
theorem zmU{B s:Nat}(hB:B≠0)(hs:s+z7 (dig (zm B) ((zm B).length - 1))=32):
  (zm (B*2 ^ s)).length=(zm B).length/\2147483648<=dig (zm (B*2 ^ s)) ((zm B).length - 1):=by
 have hne:zm B≠[]:=fun e=>hB (jO.1 e)
 have htop:=zar ((ug B).resolve_left hne);rw [zn] at htop;have hp:0 < 2 ^ s:=Nat.pow_pos dC;have hV0:B*2 ^ s≠0:=Nat.mul_ne_zero hB oM;have h1:=zbM B;have h2:=vv hB;have hpos:=zaq.2 hB;have hl:=qN.2 hB
 have e:z7 (B*2 ^ s)=z7 B+s:=by
  refine zdK ?_ hV0 ?_
  ·rw [Nat.pow_add];exact Nat.mul_lt_mul_of_pos_right h1 hp
  ·rw [show z7 B+s - 1=z7 B - 1+s by omega,Nat.pow_add];exact Nat.mul_le_mul_right _ h2
 have e32:z7 (B*2 ^ s)=32*(zm B).length:=oM;have hle:(zm (B*2 ^ s)).length<=(zm B).length:=jp (by rw [vw,← e32];exact zbM _);have hge:(zm B).length<=(zm (B*2 ^ s)).length:=kW (Nat.le_mul_of_pos_right _ hp);have hlen:(zm (B*2 ^ s)).length=(zm B).length:=oM;refine ⟨hlen,?_⟩;have hnV:zm (B*2 ^ s)≠[]:=fun e=>hV0 (jO.1 e)
 have hz:=(ug (B*2 ^ s)).resolve_left hnV;have ht2:=zar hz;rw [zn,hlen] at ht2;rw [hlen] at hz;have:=vv hz;rw [show z7 (dig (zm (B*2 ^ s)) ((zm B).length - 1)) - 1=31 by omega] at this;exact this
theorem zrj {u q:List Dig} {k n V U:Nat} (hk:k < q.length) (hlen:q.length+n=u.length) (hV:V < 4294967296 ^ n) (g3:val (u.drop (k+1)) < V)
  (g4:U=V*(4294967296 ^ (k+1)*val (q.drop (k+1)))+val u):
  ((u.drop k).take (n+1)).length=n+1/\val ((u.drop k).take (n+1)) < 4294967296*V/\u=u.take k++((u.drop k).take (n+1)++u.drop (k+n+1))/\
  ∀w:List Dig,w=js (n+1) (val ((u.drop k).take (n+1)) % V)->∀d:Dig,d.val=val ((u.drop k).take (n+1)) / V->
   val ((u.take k++(w++u.drop (k+n+1))).drop k) < V/\U=V*(4294967296 ^ k*val ((q.set k d).drop k))+val (u.take k++(w++u.drop (k+n+1))):=by
 have hwl:((u.drop k).take (n+1)).length=n+1:=by rw [List.length_take,List.length_drop];omega
 have hd:=jU u k;have hdk:=zz u k;have hlt:val (u.drop k) < 4294967296*V:=oM;have hsp:=ky (u.drop k) (n+1);rw [List.drop_drop,show k+(n+1)=k+n+1 by omega] at hsp
 have hz:val (u.drop (k+n+1))=0:=by
  apply Nat.eq_zero_of_not_pos;intro h0;have h1:4294967296 ^ (n+1)<=4294967296 ^ (n+1)*val (u.drop (k+n+1)):=Nat.le_mul_of_pos_right _ h0;have h2:4294967296 ^ (n+1)=4294967296 ^ n*4294967296:=Nat.pow_succ ..;omega
 rw [hz,Nat.mul_zero,Nat.add_zero] at hsp
 have hu:u=u.take k++((u.drop k).take (n+1)++u.drop (k+n+1)):=by
  have e1:u.drop (k+n+1)=(u.drop k).drop (n+1):=by rw [List.drop_drop];congr 1
  rw [e1,List.take_append_drop,List.take_append_drop]
 refine ⟨hwl,oM,hu,?_⟩;intro w hw d hdv
 have hw0:val w=val ((u.drop k).take (n+1)) % V:=by
  rw [hw];refine zoe ?_;refine Nat.lt_of_lt_of_le (Nat.mod_lt _ oM) ?_;rw [Nat.pow_succ];omega
 have hwl2:w.length=n+1:=by rw [hw,jI]
 have htl:(u.take k).length=k:=by rw [List.length_take];omega
 have hm:=Nat.mod_lt (val ((u.drop k).take (n+1))) (show V > 0 by omega);have hdm:=Nat.div_add_mod (val ((u.drop k).take (n+1))) V;have hu2:=ky u k;rw [hsp] at hu2;constructor
 ·rw [List.drop_append_of_le_length oM,List.drop_of_length_le oM,List.nil_append,uf,hz];omega
 ·rw [uf,uf,hz,htl,zaf hk,hw0,hdv,g4,hu2,Nat.pow_succ];generalize val ((u.drop k).take (n+1))=W at*;generalize W / V=D at*;generalize W % V=R at*;generalize 4294967296 ^ k=p at*;generalize val (q.drop (k+1))=Q at*;generalize val (u.take k)=T at*;clear hw hw0 hdv hsp hz hu hu2 g4 g3 hdk hwl hwl2 htl hlt hd hlen hk;subst hdm
  grind
theorem ztg{W V Bn g:Nat}(h:g=W / V∨g=W / V+1)(hV:0 < V)(hVB:V<=Bn):
  (if W < g*V then W+Bn - g*V else W - g*V)=(if W < g*V then W % V+Bn - V else W % V)/\(W < g*V->g=W / V+1)/\(¬W < g*V->g=W / V):=by
 have hdm:=Nat.div_add_mod W V;have hm:=Nat.mod_lt W hV
 rcases h with rfl | rfl
 ·have:¬W < W / V*V:=Nat.not_lt_of_le (Nat.div_mul_le_self W V);rw [if_neg this,if_neg this];refine ⟨?_,fun h=>absurd h this,fun _=>rfl⟩;rw [Nat.mul_comm];omega
 ·have e:(W / V+1)*V=V*(W / V)+V:=by rw [Nat.add_mul,Nat.one_mul,Nat.mul_comm]
  have:W < (W / V+1)*V:=oM;rw [if_pos this,if_pos this];refine ⟨?_,fun _=>rfl,fun h=>absurd this h⟩;omega
theorem zth{t p d c R:Nat}(hp:t < p)(hd:d < 4294967296)(hc:c<=1)(e:t+p*(d+c)=R+p*4294967296):(d+c) % 4294967296=0/\t=R:=by
 have h:d+c=4294967296:=by
  rcases Nat.lt_or_ge (d+c) 4294967296 with h | h
  ·have h1:p*(d+c+1)<=p*4294967296:=Nat.mul_le_mul_left _ h;rw [Nat.mul_add,Nat.mul_one] at h1;omega
  ·omega
 rw [h] at e ⊢;exact ⟨rfl,oM⟩
theorem zvc{t1 t2 t3 p c z y xq xr:Nat}(f5:t1+p*c=t2+t3)(hd:4294967296*xq+xr=c+(z+y)):t1+p*xr+p*4294967296*xq=t2+p*z+(t3+p*y):=by grind
theorem zgI(a b:List Dig)(ha:a.length<=400000000)(hb:b.length<=400000000)(hb0:val b≠0):
  zd Tryz.prog 217 [.sl dgE a,.sl dgE b] [] (.tup [.sl dgE (zm (val a / val b)),.sl dgE (zm (val a % val b)),i64 0]) []:=by
 refine zc tok mix Tryz.func217 rfl rfl rfl ?_;refine zb.t (qy _ oM) ?_;refine zb.t (qy _ oM) ?_;have hla:=zB a;have hlb:=zB b;generalize val a=A at*;generalize val b=B at*;intro hl;refine Br.mk (fun h=>?_) (fun h=>?_)
 ·exact absurd (jO.1 (List.length_eq_zero_iff.1 oM)) hb0
 refine zb.t (zul _ _ oM oM) ?_;rw [zn,zn];refine Br.mk (fun h2=>?_) (fun h2=>?_)
 ·have hlt:=zcl.1 h2;refine zb.t (zoc _ oM) ?_;rw [Nat.div_eq_of_lt hlt,Nat.mod_eq_of_lt hlt,qV];exact ue (.cons ku (.cons .refl (.cons .refl .nil)))
 have hge:B<=A:=Nat.le_of_not_lt fun h=>h2 (zcl.2 h)
 intro hl2;refine Br.mk (fun h3=>?_) (fun h3=>?_)
 ·refine Ob.o ?_;intro x hx;have dx:=zK hx;have hxl:=x.isLt
  have hx1:zm B=[x]:=by
   have hx:(zm B)[0]? =some x:=hx;obtain ⟨y,hy⟩:=List.length_eq_one_iff.1 (show (zm B).length=1 by omega);rw [hy] at hx ⊢;simp at hx;rw [hx]
  have hB:x.val=B:=by
   have:=zn B;rw [hx1,yY,zjq] at this;omega
  refine zb.t (n_one (zm A) x.val oM hxl oM) ?_;rw [zn,hB];have hm:=Nat.mod_lt A (show B > 0 by omega);refine Ar.o ?_;refine zb.t (zct (A % B) oM) ?_;exact .refl
 intro hl3;refine Ar.o ?_;refine Ob.o ?_;intro x hx;rw [show (((zm B).length:Int) - 1).toNat=(zm B).length - 1 by omega] at hx;have dx:=zK hx;have hxl:=x.isLt;refine zb.t (zu9 x.val hxl) ?_;have hn32:=zjH hxl;obtain ⟨s,hs⟩:∃s,32 - z7 x.val=s:=⟨_,rfl⟩;rw [hs];refine zb.t (zvb _ s oM oM) ?_;refine zb.t (zri _ s oM oM) ?_;rw [zn,zn];obtain ⟨hvl,hvt⟩:=zmU (B:=B) (s:=s) hb0 (by rw [dx];omega);refine ⟨Dig,dgE,[0],rfl,Ob.mk (zer 0) ?_⟩
 have hul:(zm (A*2 ^ s)).length<=400000001:=Nat.le_trans (jp (k:=(zm A).length+1) (by
  have h1:=za1 (n:=A) (Nat.le_refl _);have h2:2 ^ s<=4294967296 ^ 1:=by rw [vw];exact Nat.pow_le_pow_right dC oM
  rw [Nat.pow_add]
  exact Nat.lt_of_lt_of_le (Nat.mul_lt_mul_of_pos_right h1 (Nat.pow_pos dC)) (Nat.mul_le_mul_left _ h2))) oM
 refine ⟨_,rfl,Ob.mk ⟨List.cons_ne_nil _ _,(by show ((_:Int)+((1:Nat):Int))*((4:Nat):Int)<=_;omega),(by show _+1<=_;omega),dC,fun _ _=>rfl,fun _ _=>rfl⟩ ?_⟩;have hp0:0 < 2 ^ s:=Nat.pow_pos dC;have hmA:(zm A).length<=(zm (A*2 ^ s)).length:=kW (Nat.le_mul_of_pos_right _ hp0);have hmB:(zm (B*2 ^ s)).length<=(zm (A*2 ^ s)).length:=kW (Nat.mul_le_mul_right _ hge);have hV0:B*2 ^ s≠0:=Nat.mul_ne_zero hb0 oM;have eq1:A / B=A*2 ^ s / (B*2 ^ s):=(Nat.mul_div_mul_right _ _ hp0).symm
 have eq2:A % B=A*2 ^ s % (B*2 ^ s) / 2 ^ s:=by rw [Nat.mul_mod_mul_right,Nat.mul_div_cancel _ hp0]
 rw [eq1,eq2];have hlb2:(zm B).length≠0/\(zm B).length≠1:=⟨oM,oM⟩;rw [← hvl] at hvt;clear eq1 eq2 hp0;generalize A*2 ^ s=U at*;generalize B*2 ^ s=V at*;refine ⟨Unit,fun _=>⟨[(0,.sl dgE (zm A)),(9,i64 s),(10,.sl dgE (zm V)),(11,.own 0)],[(0,kU (zm U++[0]))],1,148,0⟩,fun _=>True,fun _=>0,(),trivial,?_,?_⟩
 ·exact zh [(0,some 1)]
 rintro ⟨⟩ _
 intro hl4;intro hl5;have hll:(zm U++[0]).length=(zm U).length+1:=by simp
 refine Br.mk (fun h4=>?_) (fun _=>?_)
 ·omega
 intro hl6;intro hl7;refine Ar.o ?_;obtain ⟨nq,hnq⟩:∃nq:Nat,nq+(zm V).length=(zm U).length+1:=⟨(zm U).length+1 - (zm V).length,oM⟩;refine ⟨Dig,dgE,0,rfl,Ob.o6 ?_⟩;intro hl8;refine Ar.o ?_;have hVn:V < 4294967296 ^ (zm V).length:=za1 (Nat.le_refl _)
 refine ⟨Nat×List Dig×List Dig,fun ⟨j,q,u⟩=>⟨[(13,i64 ((j:Int) - 1)),(12,.own 1),(11,.own 0),(10,.sl dgE (zm V)),(9,i64 s)],[(1,kU q),(0,kU u)],2,148,0⟩,
  fun x=>x.1<=nq/\x.2.1.length=nq/\x.2.2.length=(zm U).length+1/\val (x.2.2.drop x.1) < V/\U=V*(4294967296 ^ x.1*val (x.2.1.drop x.1))+val x.2.2,fun x=>x.1,
  (nq,List.replicate nq 0,zm U++[0]),?_,?_,?_⟩
 ·refine ⟨Nat.le_refl _,by simp,hll,?_,?_⟩
  ·dsimp only;have hz:val (zm U++[0])=U:=by rw [yZ,zn];rfl
   rw [zgq,hz];have h1:=za1 (n:=U) (Nat.le_refl _);have h2:=zjr hV0;refine Nat.lt_of_lt_of_le ?_ h2;rw [Nat.div_lt_iff_lt_mul (zbK _),← Nat.pow_add];refine Nat.lt_of_lt_of_le h1 (Nat.pow_le_pow_right dC oM)
  ·dsimp only;rw [zU (by simp),Nat.mul_zero,Nat.mul_zero,yZ,zn];show U=0+(U+_*0);omega
 ·exact z0 [(0,some 0),(1,some 1)] ⟨congrArg (fun n=>some (i64 n)) (by simp only [List.length_replicate];omega),rfl,rfl,rfl,rfl,trivial⟩ ⟨congrArg (fun n=>some (kU (List.replicate n 0))) oM,rfl,trivial⟩
 rintro ⟨j,q,u⟩ ⟨g1,g2,g3,g4,g5⟩
 dsimp only at g1 g2 g3 g4 g5;refine Br.mk (fun k1=>?_) (fun k1=>?_)
 ·obtain ⟨k,rfl⟩:∃k,j=k+1:=⟨j - 1,oM⟩;rw [show (((k+1:Nat):Int) - 1)=k by omega];obtain ⟨r1,r2,r3,r4⟩:=zrj (k:=k) (n:=(zm V).length) oM oM hVn g4 g5;intro hl9;(iterate 2 refine Ar.o ?_);refine Sl.win (Ob.mk oM ?_);have htl:(u.take k).length=k:=by rw [List.length_take];omega
  rw [show (((k+1:Nat):Int) - 1+((zm V).length:Int)+1 - (((k+1:Nat):Int) - 1))=(((u.drop k).take ((zm V).length+1)).length:Nat) by rw [r1];omega,
   show (((k+1:Nat):Int) - 1)=((u.take k).length:Nat) by omega]
  have hW:(u.drop ((u.take k).length:Int).toNat).take (((u.drop k).take ((zm V).length+1)).length:Int).toNat=(u.drop k).take ((zm V).length+1):=by
   rw [Int.toNat_natCast,Int.toNat_natCast,r1,htl]
  obtain ⟨post,hpost⟩:∃post,u.drop (k+(zm V).length+1)=post:=⟨_,rfl⟩;obtain ⟨pre,hpre⟩:∃pre,u.take k=pre:=⟨_,rfl⟩;rw [hpost,hpre] at r3 r4;rw [hpre] at htl hW;rw [hpre];obtain ⟨hgc,_,_⟩:=zig (U:=(u.drop k).take ((zm V).length+1)) (V:=zm V) r1 oM hvt (by rw [zn];exact r2);rw [zn] at hgc;have cg:=zte ((u.drop k).take ((zm V).length+1)) (zm V) oM r1 oM hvt (by rw [zn];exact r2);generalize zey ((u.drop k).take ((zm V).length+1)) (zm V)=g at hgc cg;rw [← hW] at cg;refine zb.t cg ?_;clear cg hW
  generalize (u.drop k).take ((zm V).length+1)=W at*;have hD:val W / V < 4294967296:=by rw [Nat.div_lt_iff_lt_mul oM];exact r2
  have hpn:4294967296 ^ ((zm V).length+1)=4294967296 ^ (zm V).length*4294967296:=Nat.pow_succ ..;obtain ⟨m1,m2,m3⟩:=ztg (Bn:=4294967296 ^ ((zm V).length+1)) hgc (Nat.pos_of_ne_zero hV0) oM;have hmod:=Nat.mod_lt (val W) (Nat.pos_of_ne_zero hV0);have ct:=zu7 pre W post (zm V) g r1 oM;rw [← r3,zn] at ct
  have htw:zln W (zm V) g=js ((zm V).length+1) (if val W < g*V then val W % V+4294967296 ^ ((zm V).length+1) - V else val W % V):=by
   unfold zln;rw [zn,r1,m1]
  rw [htw] at ct;clear htw m1;refine zb.hand 0 _ _ _ rfl ct (qn _) (qn _) rfl rfl ?_;clear ct hgc;generalize val W / V=D at*;generalize val W % V=R at*;have hul2:u.length=pre.length+(W.length+post.length):=by rw [r3];simp
  refine Br.mk (fun k2=>?_) (fun k2=>?_)
  ·have hg:=m2 k2;rw [if_pos k2];refine Ar.o ?_;intro hl10;obtain ⟨w0,hw0⟩:∃w0,js ((zm V).length+1) (R+4294967296 ^ ((zm V).length+1) - V)=w0:=⟨_,rfl⟩;have hw0l:w0.length=(zm V).length+1:=by rw [← hw0,jI]
   have hw0v:val w0=R+4294967296 ^ ((zm V).length+1) - V:=by rw [← hw0];exact zoe oM
   rw [hw0]
   refine ⟨Nat×List Dig×Nat,fun ⟨i,w,c⟩=>⟨[(105,i64 i),(104,i64 (zm V).length),(103,.sl dgE (zm V)),(16,u64 c),(15,u64 ((g:Int) - 1)),(14,.win 0 1 (pre.length:Nat) (W.length:Nat)),(13,i64 (pre.length:Nat)),(12,.own 1),(11,.own 0),(10,.sl dgE (zm V)),(9,i64 s)],
     [(1,kU q),(0,kU (pre++(w++post)))],2,148,0⟩,
    fun x=>x.1<=(zm V).length/\x.2.1.length=(zm V).length+1/\x.2.2<=1/\(∀j,x.1<=j->dig x.2.1 j=dig w0 j)/\val (x.2.1.take x.1)+4294967296 ^ x.1*x.2.2=val (w0.take x.1)+val ((zm V).take x.1),
    fun x=>(zm V).length - x.1,(0,w0,0),?_,?_,?_⟩
   ·exact ⟨Nat.zero_le _,hw0l,Nat.zero_le _,fun _ _=>rfl,by simp [val]⟩
   ·exact z0 [(0,some 0),(1,some 1)] ⟨rfl,rfl,rfl,rfl,rfl,rfl,congrArg (fun n=>some (i64 n)) oM,rfl,rfl,rfl,rfl,trivial⟩ ⟨rfl,rfl,trivial⟩
   rintro ⟨i,w,c⟩ ⟨f1,f2,f3,f4,f5⟩
   dsimp only at f1 f2 f3 f4 f5;have hlw:(pre++(w++post)).length=pre.length+(zm V).length+1+post.length:=by simp [f2];omega
   refine Br.mk (fun k3=>?_) (fun k3=>?_)
   ·refine Ob.o ?_;intro y hy;have hy:(zm V)[i]? =some y:=hy;have dy:=zK hy;have hyl:=y.isLt;refine Ob.o5 ?_;refine Ob.mk (by rw [hlw];omega) ?_;intro z hz;have hz:w[i]? =some z:=by rw [← zfx (pre:=pre) (post:=post) oM,← hz];congr 1
    have dz:=zK hz;have hzl:=z.isLt;(iterate 4 refine Ar.o ?_);refine Ar.wrap ?_;refine Ob.o5 ?_;refine Ob.mk (by rw [hlw];omega) ?_;intro z' hz';refine ⟨dof (c+(z.val+y.val)),congrArg (fun n=>[u32 n]) (by rw [vy rfl];simp),?_⟩;refine Ob.o1 ?_;refine Ar.o ?_
    refine ⟨(i+1,w.set i (dof (c+(z.val+y.val))),(c+(z.val+y.val)) / 4294967296),⟨by dsimp only;omega,by simp [f2],by dsimp only;omega,fun j hj=>?_,?_⟩,
     uP [(0,some 0),(1,some 1)] rfl rfl rfl ⟨rfl,rfl,rfl,congrArg (fun n=>some (u64 n)) (by simp only [Int.reducePow];omega),rfl,rfl,rfl,rfl,rfl,rfl,rfl,trivial⟩
      ⟨rfl,congrArg (fun l=>some (kU l)) (by rw [← zfy oM];congr 1),trivial⟩,by dsimp only;omega⟩
    ·dsimp only at hj ⊢;rw [jd,if_neg oM];exact f4 j oM
    ·dsimp only;rw [zG,zG,zG,Nat.pow_succ,dy,jd,if_pos ⟨rfl,oM⟩,zvV,← f4 i (Nat.le_refl _),dz];have ht:(w.set i (dof (c+(z.val+y.val)))).take i=w.take i:=by rw [List.take_set_of_le oM]
     rw [ht];have hd:=Nat.div_add_mod (c+(z.val+y.val)) 4294967296;exact zvc f5 hd
   ·have hi:i=(zm V).length:=by omega
    subst hi;intro hl11;refine Ob.o5 ?_;refine Ob.mk (by rw [hlw];omega) ?_;intro z hz;have hz:w[(zm V).length]? =some z:=by rw [← zfx (pre:=pre) (post:=post) oM,← hz];congr 1
    have dz:=zK hz;have hzl:=z.isLt;refine Ar.o ?_;refine Ar.wrap ?_;refine Ob.o5 ?_;refine Ob.mk (by rw [hlw];omega) ?_;intro z' hz';refine ⟨dof (z.val+c),congrArg (fun n=>[u32 n]) (by rw [vy rfl];simp),?_⟩
    have hw2:w.set (zm V).length (dof (z.val+c))=js ((zm V).length+1) R:=by
     rw [← zod (w.set _ _),List.length_set,f2];congr 1;have e1:=ky w0 (zm V).length;have e3:=zz w0 (zm V).length;rw [zU (show w0.length<=(zm V).length+1 by omega),Nat.mul_zero,Nat.add_zero] at e3;rw [e3,hw0v,hpn,← f4 _ (Nat.le_refl _),dz] at e1;rw [kz (Nat.le_refl (zm V).length),zn] at f5;have g2:=ky (w.set (zm V).length (dof (z.val+c))) (zm V).length;have g3:=zz (w.set (zm V).length (dof (z.val+c))) (zm V).length;have g0:val ((w.set (zm V).length (dof (z.val+c))).drop ((zm V).length+1))=0:=zU (by rw [List.length_set];omega)
     rw [g0,Nat.mul_zero,Nat.add_zero,jd,if_pos ⟨rfl,oM⟩,zvV] at g3;rw [g3,List.take_set_of_le (Nat.le_refl _)] at g2;rw [g2];obtain ⟨n1,n2⟩:=zth (R:=R) (qq w (zm V).length) hzl f3 (by rw [Nat.mul_add];omega);rw [n1,n2];rfl
    have hset:(pre++(w++post)).set (pre.length+(zm V).length) (dof (z.val+c))=pre++(js ((zm V).length+1) R++post):=by
     rw [zfy oM,hw2]
    obtain ⟨e1,e2⟩:=r4 _ rfl (dof D) (by rw [zvV,Nat.mod_eq_of_lt hD]);refine Ar.o ?_;refine Ob.o ?_;refine Ob.o ?_;intro z2 hz2;refine ⟨dof D,congrArg (fun n=>[u32 n]) (by rw [zvV,Nat.mod_eq_of_lt hD];omega),?_⟩;refine Ar.o ?_
    refine ⟨(k,q.set k (dof D),pre++(js ((zm V).length+1) R++post)),⟨by dsimp only;omega,by simp [g2],by simp [jI];omega,e1,e2⟩,
     z0 [(0,some 0),(1,some 1)] ⟨congrArg (fun n=>some (i64 n)) oM,rfl,rfl,rfl,rfl,trivial⟩ ⟨congrArg (fun n=>some (kU (q.set n _))) oM,congrArg (fun l=>some (kU l)) (by rw [← hset];congr 1),trivial⟩,by dsimp only;omega⟩
  ·have hg:=m3 k2;rw [if_neg k2];obtain ⟨e1,e2⟩:=r4 _ rfl (dof D) (by rw [zvV,Nat.mod_eq_of_lt hD]);refine Ar.o ?_;refine Ob.o ?_;refine Ob.o ?_;intro z2 hz2;refine ⟨dof D,congrArg (fun n=>[u32 n]) (by rw [zvV,Nat.mod_eq_of_lt hD];omega),?_⟩;refine Ar.o ?_
   refine ⟨(k,q.set k (dof D),pre++(js ((zm V).length+1) R++post)),⟨by dsimp only;omega,by simp [g2],by simp [jI];omega,e1,e2⟩,
    z0 [(0,some 0),(1,some 1)] ⟨congrArg (fun n=>some (i64 n)) oM,rfl,rfl,rfl,rfl,trivial⟩ ⟨congrArg (fun n=>some (kU (q.set n _))) oM,rfl,trivial⟩,by dsimp only;omega⟩
 ·have hj:j=0:=by omega
  subst hj;rw [List.drop_zero] at g4 g5;rw [Nat.pow_zero,Nat.one_mul] at g5;refine zb.see 1 _ (qy _ oM) rfl rfl rfl ?_;refine Ar.o ?_;refine zb.see 0 _ (zva u s oM oM) rfl rfl rfl ?_
  have e1:val q=U / V:=by
   rw [g5,Nat.mul_add_div oM,Nat.div_eq_of_lt g4,Nat.add_zero]
  have e2:val u=U % V:=by
   rw [g5,Nat.mul_add_mod,Nat.mod_eq_of_lt g4]
  exact ue (.cons (qb (by rw [e1])) (.cons (qb (by rw [e2])) (.cons .refl .nil)))
theorem n_gcd(a b:List Dig)(ha:a.length<=400000000)(hb:b.length<=400000000):
  zd Tryz.prog 222 [.sl dgE a,.sl dgE b] [] (.sl dgE (zm (Nat.gcd (val a) (val b)))) []:=by
 refine zc tok mix Tryz.func222 rfl rfl rfl ?_;refine zb.t (uE _ oM) ?_;refine zb.t (uE _ oM) ?_;have hla:=zB a;have hlb:=zB b
 refine ⟨Nat×Nat,fun ⟨A,B⟩=>⟨[(0,.sl dgE (zm A)),(1,.sl dgE (zm B))],[],0,25,0⟩,
  fun x=>(zm x.1).length<=400000000/\(zm x.2).length<=400000000/\Nat.gcd x.1 x.2=Nat.gcd (val a) (val b),fun x=>x.2,(val a,val b),?_,?_,?_⟩
 ·exact ⟨by dsimp only;omega,by dsimp only;omega,rfl⟩
 ·exact zh []
 rintro ⟨A,B⟩ ⟨h1,h2,h3⟩
 dsimp only at h1 h2 h3;intro hl;refine Br.mk (fun k=>?_) (fun k=>?_)
 ·have hB:B≠0:=qN.1 oM;refine zb.t (zgI (zm A) (zm B) oM oM (by rw [zn];exact hB)) ?_;rw [zn,zn];have hm:=Nat.mod_lt A (Nat.pos_of_ne_zero hB);refine ⟨(B,A % B),⟨h2,Nat.le_trans (kW (Nat.le_of_lt hm)) h2,?_⟩,zh [],hm⟩;dsimp only;rw [← h3,Nat.gcd_comm B,Nat.gcd_comm A B,Nat.gcd_rec B A]
 ·have hB:B=0:=jO.1 (List.length_eq_zero_iff.1 oM);subst hB;rw [Nat.gcd_zero_right] at h3;exact qb (by rw [h3])
theorem zcR(p:Prop)[i:Decidable p](m:List Dig)(hm:m.length<=1000000000):
  zd Tryz.prog 212 [.pr p i,.sl dgE m] [] (.agg (biE (ofZ (if p then -(val m:Int) else val m)))) []:=by
 refine zc tok mix Tryz.func212 rfl rfl rfl ?_;refine zb.t (uE m hm) ?_;have hd:=qN (n:=val m);refine Br.mk (fun h=>?_) (fun h=>?_)
 ·intro hl;refine jJ (.cons (kZ ?_) (.cons (qb ?_) .nil))
  ·rw [u4,if_pos h];omega
  ·rw [u5,if_pos h];congr 1;omega
 ·refine jJ (.cons (ze ?_) (.cons (qb ?_) .nil))
  ·rw [u4,if_neg h];omega
  ·rw [u5,if_neg h];congr 1
theorem zvd(m:List Dig)(hm:m.length<=1000000000):zd Tryz.prog 212 [bl true,.sl dgE m] [] (.agg (biE (ofZ (-(val m:Int))))) []:=by
 have h:=(zcR True m hm).args (.cons (kC trivial) LEs.refl)
 rwa [if_pos trivial] at h
theorem zrk(m:List Dig)(hm:m.length<=1000000000):zd Tryz.prog 212 [bl false,.sl dgE m] [] (.agg (biE (ofZ (val m:Int)))) []:=by
 have h:=(zcR False m hm).args (.cons (ze not_false) LEs.refl)
 rwa [if_neg not_false] at h
theorem zrl(a:BI)(hm:a.mag.length<=1000000000):
  zd Tryz.prog 212 [pr (a.neg=true),.sl dgE a.mag] [] (.agg (biE (ofZ a.v))) []:=zcR (a.neg=true) a.mag hm
theorem zcv(n:Int)(hn:R64 n):zd Tryz.prog 155 [i64 n] [] (.agg (biE (ofZ n))) []:=by
 refine zc tok mix Tryz.func155 rfl rfl rfl ?_;refine Br.mk (fun h=>?_) (fun h=>?_)
 ·refine Ar.wrap ?_;refine Ar.wrap ?_;have e:IntKind.u64.wrap (-IntKind.u64.wrap n)=((n.natAbs:Nat):Int):=by rw [jE,jE];omega
  rw [e];refine zb.t (zct n.natAbs oM) ?_;refine zb.t (zvd (zm n.natAbs) (by have:=jq hn;unfold je at this;omega)) ?_;rw [zn,show (-(n.natAbs:Int))=n by omega];exact .refl
 ·refine Ar.wrap ?_;have e:IntKind.u64.wrap n=((n.natAbs:Nat):Int):=by rw [jE];omega
  rw [e];refine zb.t (zct n.natAbs oM) ?_;refine zb.t (zrk (zm n.natAbs) (by have:=jq hn;unfold je at this;omega)) ?_;rw [zn,show (n.natAbs:Int)=n by omega];exact .refl
theorem zjI(a:BI)(ha:a.mag.length<=900000000):zd Tryz.prog 214 [.agg (biE a)] [] (i64 a.v.sign) []:=by
 refine zc tok mix Tryz.func214 rfl rfl rfl ?_;refine zb.t (zlp a.mag ha) ?_;have h1:=zaq (n:=val a.mag);have h2:=a.v_eq;refine Br.mk (fun h=>?_) (fun h=>?_)
 ·have:a.v=0:=by omega
  exact zu (by rw [this];rfl)
 refine Br.mk (fun h3=>?_) (fun h3=>?_)
 ·refine zu (Int.sign_eq_neg_one_of_neg ?_).symm
  rcases h2 with ⟨e1,e2⟩ | ⟨e1,e2⟩
  ·omega
  ·rw [e1] at h3;cases h3
 ·refine zu (Int.sign_eq_one_of_pos ?_).symm
  rcases h2 with ⟨e1,e2⟩ | ⟨e1,e2⟩
  ·exact absurd e1 h3
  ·omega
theorem z_neg(a:BI)(ha:a.mag.length<=1000000000):zd Tryz.prog 276 [.agg (biE a)] [] (.agg (biE (ofZ (-a.v)))) []:=by
 refine zc tok mix Tryz.func276 rfl rfl rfl ?_;refine zb.t (zcR (¬a.neg=true) a.mag ha) ?_
 have:(if ¬a.neg=true then -(val a.mag:Int) else (val a.mag:Int))= -a.v:=by
  rcases a.v_eq with ⟨h1,h2⟩ | ⟨h1,h2⟩ <;> simp [h1,h2]
 rw [this];exact .refl
theorem zuo(a b:BI)(ha:a.mag.length<=800000000)(hb:b.mag.length<=800000000):zd Tryz.prog 162 [.agg (biE a),.agg (biE b)] [] (.agg (biE (ofZ (a.v+b.v)))) []:=by
 refine zc tok mix Tryz.func162 rfl rfl rfl ?_;refine Br.mk (fun h=>?_) (fun h=>?_)
 ·refine Dr.k ?_;refine zb.t (zum a.mag b.mag oM oM) ?_;have hl:=zgu ha hb;refine zb.t (zcR (a.neg=true) _ oM) ?_
  have:(if a.neg=true then -(val (zm (val a.mag+val b.mag)):Int) else (val (zm (val a.mag+val b.mag)):Int))=a.v+b.v:=by
   rw [zn]
   rcases a.v_eq with ⟨h1,h2⟩ | ⟨h1,h2⟩ <;> rcases b.v_eq with ⟨h3,h4⟩ | ⟨h3,h4⟩ <;> simp [h1,h3] at h <;> simp [h1,h2,h4] <;> omega
  rw [this];exact .refl
 ·refine zb.t (zun a.mag b.mag oM oM) ?_;have hl:(zm (val a.mag - val b.mag)).length<=1000000000:=Nat.le_trans (kW (Nat.sub_le _ _)) (Nat.le_trans (zB _) oM);have hl2:(zm (val b.mag - val a.mag)).length<=1000000000:=Nat.le_trans (kW (Nat.sub_le _ _)) (Nat.le_trans (zB _) oM);refine Br.mk (fun h2=>?_) (fun h2=>?_)
  ·refine zb.t (zcR (a.neg=true) _ hl) ?_
   have:(if a.neg=true then -(val (zm (val a.mag - val b.mag)):Int) else (val (zm (val a.mag - val b.mag)):Int))=a.v+b.v:=by
    rw [zn]
    rcases a.v_eq with ⟨h1,h2⟩ | ⟨h1,h2⟩ <;> rcases b.v_eq with ⟨h3,h4⟩ | ⟨h3,h4⟩ <;> simp [h1,h3] at h <;> simp [h1,h2,h4] <;> omega
   rw [this];exact .refl
  ·refine zb.t (zun b.mag a.mag oM oM) ?_;refine zb.t (zcR (b.neg=true) _ hl2) ?_
   have:(if b.neg=true then -(val (zm (val b.mag - val a.mag)):Int) else (val (zm (val b.mag - val a.mag)):Int))=a.v+b.v:=by
    rw [zn]
    rcases a.v_eq with ⟨h1,h2⟩ | ⟨h1,h2⟩ <;> rcases b.v_eq with ⟨h3,h4⟩ | ⟨h3,h4⟩ <;> simp [h1,h3] at h <;> simp [h3,h2,h4] <;> omega
   rw [this];exact .refl
theorem zT(z:Int):(ofZ z).mag.length=je z:=rfl
theorem zrm(a b:BI)(ha:a.mag.length<=800000000)(hb:b.mag.length<=800000000):zd Tryz.prog 220 [.agg (biE a),.agg (biE b)] [] (.agg (biE (ofZ (a.v - b.v)))) []:=by
 refine zc tok mix Tryz.func220 rfl rfl rfl ?_;refine Dr.k ?_;refine zb.t (z_neg b oM) ?_;have h1:=zbO b;refine zb.t (zuo a (ofZ (-b.v)) oM (by rw [zT,zas];omega)) ?_;rw [z8,← Int.sub_eq_add_neg];exact .refl
theorem ze4(a b:BI)(ha:a.mag.length<=400000000)(hb:b.mag.length<=400000000):zd Tryz.prog 221 [.agg (biE a),.agg (biE b)] [] (.agg (biE (ofZ (a.v*b.v)))) []:=by
 refine zc tok mix Tryz.func221 rfl rfl rfl ?_;refine Dr.k ?_;refine zb.t (n_mul a.mag b.mag ha hb) ?_
 have hl:(zm (val a.mag*val b.mag)).length<=1000000000:=by
  refine Nat.le_trans (jp (k:=a.mag.length+b.mag.length) ?_) oM;rw [Nat.pow_add];exact Nat.mul_lt_mul_of_lt_of_lt (qD _) (qD _)
 refine zb.t (zcR (¬(a.neg=true↔b.neg=true)) _ hl) ?_;rw [zn,zuh];exact .refl
theorem zlq(a:BI)(ha:a.mag.length<=900000000):zd Tryz.prog 210 [.agg (biE a)] [] (i64 (z7 a.v.natAbs)) []:=by
 refine zc tok mix Tryz.func210 rfl rfl rfl ?_;refine zb.t (zlp a.mag ha) ?_;rw [← a.v_abs];exact .refl
theorem zrn{a b:Int}(hb:0 < b):a / b=if a < 0 then -((a.natAbs / b.natAbs+(if a.natAbs % b.natAbs=0 then 0 else 1):Nat):Int) else ((a.natAbs / b.natAbs:Nat):Int):=by
 have hdm:=Nat.div_add_mod a.natAbs b.natAbs;have hm:=Nat.mod_lt a.natAbs (show b.natAbs > 0 by omega);generalize a.natAbs / b.natAbs=q at*;generalize a.natAbs % b.natAbs=r at*;have e:(b:Int)*(q:Int)=((b.natAbs*q:Nat):Int):=by rw [Int.natCast_mul];congr 1;omega
 by_cases h:a < 0
 ·rw [if_pos h]
  by_cases h0:r=0
  ·rw [if_pos h0,Nat.add_zero];exact ((Int.ediv_emod_unique hb).2 ⟨(by rw [Int.mul_neg,e];omega:(0:Int)+b*(-(q:Int))=a),oM,hb⟩).1
  ·rw [if_neg h0];exact ((Int.ediv_emod_unique hb (r:=b - r)).2 ⟨by rw [Int.mul_neg,Int.natCast_add,Int.mul_add,e];omega,oM,oM⟩).1
 ·rw [if_neg h];exact ((Int.ediv_emod_unique hb (r:=r)).2 ⟨by rw [e];omega,oM,oM⟩).1
theorem zgJ(p:Prop)[i:Decidable p]:zd Tryz.prog 219 [.pr p i] [] (.fn 275 [.loc 0 0]) [(0,.box 4 [.pr p i])]:=by
 refine jD tok mix Tryz.func219 rfl rfl rfl ?_;exact ⟨some 0,zs0 (.cons (.loc 0 0 rfl) .nil),rfl,rfl⟩
theorem zez(p:Prop)[i:Decidable p](m:List Dig)(hm:m.length<=1000000000):
  zd Tryz.prog 275 [.sl dgE m,.ptr [.pr p i]] [] (.agg (biE (ofZ (if p then -(val m:Int) else val m)))) []:=by
 refine zc tok mix Tryz.func275 rfl rfl rfl ?_;refine zb.t (zcR p m hm) ?_;exact .refl
theorem zro(a b:BI)(ha:a.mag.length<=200000000)(hb:b.mag.length<=200000000)(h0:0 < b.v):
  zd Tryz.prog 159 [.agg (biE a),.agg (biE b)] [] (.tup [.agg (biE (ofZ (a.v / b.v))),.agg (biE (ofZ (a.v % b.v))),i64 0]) []:=by
 refine zc tok mix Tryz.func159 rfl rfl rfl ?_;refine Dr.k ?_;refine zb.t (zrl a oM) ?_;refine zb.t (zrl b oM) ?_;have la:=zbO a;have lb:=zbO b;refine zb.t (zgI (zm a.v.natAbs) (zm b.v.natAbs) (by unfold je at la;omega) (by unfold je at lb;omega) (by rw [zn];omega)) ?_;rw [zn,zn];refine Br.mk (fun h=>absurd rfl h) (fun _=>?_);have hza:=u4 a.v;have hzb:=u4 b.v;have hq:=zrn (a:=a.v) h0;have hm:=Int.emod_def a.v b.v
 have zq:je (a.v / b.v)<=je a.v:=zat (by
  have:=Int.natAbs_ediv_le_natAbs a.v b.v
  exact this)
 have zp:=qJ (a.v / b.v) b.v;have neg1:a.v < 0->¬((ofZ a.v).neg=true↔(ofZ b.v).neg=true):=fun h=>by rw [hza,hzb];omega
 have neg2:¬a.v < 0->¬¬((ofZ a.v).neg=true↔(ofZ b.v).neg=true):=fun h=>by rw [hza,hzb];omega
 have q1:(zm (a.v.natAbs / b.v.natAbs)).length<=200000000:=Nat.le_trans (kW (Nat.div_le_self _ _)) (by unfold je at la;omega);refine Br.mk (fun h1=>?_) (fun h1=>?_)
 ·have hneg:a.v < 0:=Classical.byContradiction fun h=>neg2 h h1
  intro hl;refine Br.mk (fun h2=>?_) (fun h2=>?_)
  ·have hr:a.v.natAbs % b.v.natAbs≠0:=qN.1 oM;refine zb.t (zct 1 dC) ?_;refine zb.t (zum _ _ oM (by decide +kernel)) ?_;rw [zn,zn];rw [if_pos hneg,if_neg hr] at hq;have ql:=zgu (a:=zm (a.v.natAbs / b.v.natAbs)) (b:=zm 1) q1 (by decide +kernel);rw [zn,zn] at ql;refine zb.fresh _ _ (zgJ (¬((ofZ a.v).neg=true↔(ofZ b.v).neg=true))) rfl rfl (.inr rfl) ?_;refine zb.t (zez _ (zm (a.v.natAbs / b.v.natAbs+1)) oM) ?_;rw [zn,if_pos h1,← hq];refine Dr.k ?_;refine zb.t (ze4 (ofZ (a.v / b.v)) (ofZ b.v) (by rw [zT];omega) (by rw [zT];omega)) ?_
   refine zb.t (zrm (ofZ a.v) (ofZ ((ofZ (a.v / b.v)).v*(ofZ b.v).v)) (by rw [zT];omega) (by rw [zT,z8,z8];omega)) ?_;rw [z8,z8,z8,z8,Int.mul_comm (a.v / b.v),← hm];exact .refl
  ·have hr:a.v.natAbs % b.v.natAbs=0:=jO.1 (List.length_eq_zero_iff.1 oM);rw [if_pos hneg,if_pos hr,Nat.add_zero] at hq;refine zb.fresh _ _ (zgJ (¬((ofZ a.v).neg=true↔(ofZ b.v).neg=true))) rfl rfl (.inr rfl) ?_;refine zb.t (zez _ (zm (a.v.natAbs / b.v.natAbs)) oM) ?_;rw [zn,if_pos h1,← hq];refine Dr.k ?_;refine zb.t (ze4 (ofZ (a.v / b.v)) (ofZ b.v) (by rw [zT];omega) (by rw [zT];omega)) ?_;refine zb.t (zrm (ofZ a.v) (ofZ ((ofZ (a.v / b.v)).v*(ofZ b.v).v)) (by rw [zT];omega) (by rw [zT,z8,z8];omega)) ?_;rw [z8,z8,z8,z8,Int.mul_comm (a.v / b.v),← hm]
   exact .refl
 ·have hneg:¬a.v < 0:=fun h=>h1 (neg1 h)
  rw [if_neg hneg] at hq;refine zb.fresh _ _ (zgJ (¬((ofZ a.v).neg=true↔(ofZ b.v).neg=true))) rfl rfl (.inr rfl) ?_;refine zb.t (zez _ (zm (a.v.natAbs / b.v.natAbs)) oM) ?_;rw [zn,if_neg h1,← hq];refine Dr.k ?_;refine zb.t (ze4 (ofZ (a.v / b.v)) (ofZ b.v) (by rw [zT];omega) (by rw [zT];omega)) ?_;refine zb.t (zrm (ofZ a.v) (ofZ ((ofZ (a.v / b.v)).v*(ofZ b.v).v)) (by rw [zT];omega) (by rw [zT,z8,z8];omega)) ?_;rw [z8,z8,z8,z8,Int.mul_comm (a.v / b.v),← hm];exact .refl
end Go.Gs
