/- Natural numbers, the program's: a multiple taken off a part of a row. -/
import Derived.Test.YtbgnkgoiocjbnaaGreatMA
import Derived.Test.YtbgnkgoiocjbnaaGreatMAY
import Derived.Laws.MathBits
set_option maxRecDepth 100000
set_option maxHeartbeats 8000000
set_option linter.all false
namespace Go.Gs
open Go.Proofs
def js(k n:Nat):List Dig:=(List.range k).map fun i=>dof (n / 4294967296 ^ i)
theorem jI(k n:Nat):(js k n).length=k:=by simp [js]
theorem zrg{xs ys:List Dig}(hl:xs.length=ys.length)(h:∀i,i < xs.length->dig xs i=dig ys i):xs=ys:=by
 refine List.ext_getElem hl fun i h1 h2=>Fin.ext ?_
 have:=h i h1
 rwa [zK (List.getElem?_eq_getElem h1),zK (List.getElem?_eq_getElem h2)] at this
theorem zod(w:List Dig):js w.length (val w)=w:=by
 refine zrg (jI _ _) fun i hi=>?_
 rw [jI] at hi;rw [zs1 w i];have:(js w.length (val w))[i]? =some (dof (val w / 4294967296 ^ i)):=by simp [js,hi]
 rw [zK this,zvV]
theorem zoe{k n:Nat}(h:n < 4294967296 ^ k):val (js k n)=n:=by
 have:=zbN (xs:=js k n) (N:=n) (fun j hj=>by
  rw [jI] at hj;have e:(js k n)[j]? =some (dof (n / 4294967296 ^ j)):=by simp [js,hj]
  rw [zK e,zvV])
 rw [jI,Nat.mod_eq_of_lt h] at this;exact this
theorem zfx{pre w post:List Dig}{i:Nat}(h:i < w.length):(pre++(w++post))[pre.length+i]? =w[i]? :=by
 rw [List.getElem?_append_right oM,Nat.add_sub_cancel_left,List.getElem?_append_left h]
theorem zfy{pre w post:List Dig}{i:Nat}{d:Dig}(h:i < w.length):(pre++(w++post)).set (pre.length+i) d=pre++(w.set i d++post):=by
 rw [List.set_append_right _ _ oM,Nat.add_sub_cancel_left,List.set_append_left _ _ h]
def zln(W V:List Dig)(q:Nat):List Dig:=js W.length (if val W < q*val V then val W+4294967296 ^ W.length - q*val V else val W - q*val V)
theorem zu6{x:Nat}{e:Int}(h:e=x):uW .and .u64 e 4294967295=((x % 4294967296:Nat):Int):=by rw [h];exact zn0 x
theorem zgH{u lo b:Nat}(hu:u < 4294967296)(hl:lo < 4294967296)(hb:b<=1):
  ((dof (8589934592+u - lo - b)).val:Int)=IntKind.u32.wrap (IntKind.u64.wrap (IntKind.u64.wrap ((u:Int) - lo) - b))/\
  IntKind.u64.wrap (IntKind.u64.wrap ((u:Int) - lo) - b) / 2 ^ 63=(((if u < lo+b then 1 else 0:Nat)):Int)/\
  (8589934592+u - lo - b) % 4294967296+lo+b=u+4294967296*(if u < lo+b then 1 else 0):=by
 rw [zgr,jE,jE,zvV];simp only [Int.reducePow];refine ⟨oM,?_,?_⟩
 ·split <;> omega
 ·split <;> omega
theorem zu7(pre W post V:List Dig)(q:Nat)(hW:W.length=V.length+1)(hq:q<=4294967296):
  zd Tryz.prog 273 [.win 0 1 (pre.length:Int) (W.length:Int),.sl dgE V,u64 q] [(0,kU (pre++(W++post)))] (pr (val W < q*val V)) [(0,kU (pre++(zln W V q++post)))]:=by
 refine zck tok mix Tryz.func273 rfl rfl rfl (qn _) rfl ?_;intro hl0
 refine ⟨Nat×List Dig×Nat×Nat,fun ⟨i,w,c,b⟩=>⟨[(15,i64 i),(14,i64 V.length),(13,.sl dgE V),(7,u64 c),(8,u64 b),(0,.win 0 1 (pre.length:Int) (W.length:Int)),(1,.sl dgE V),(2,u64 q)],[(0,kU (pre++(w++post)))],1,65,1⟩,
  fun s=>s.1<=V.length/\s.2.1.length=W.length/\s.2.2.1 < 4294967296/\s.2.2.2<=1/\(∀j,s.1<=j->dig s.2.1 j=dig W j)/\val (s.2.1.take s.1)+q*val (V.take s.1)=val (W.take s.1)+4294967296 ^ s.1*(s.2.2.1+s.2.2.2),
  fun s=>V.length - s.1,(0,W,0,0),?_,?_,?_⟩
 ·exact ⟨Nat.zero_le _,rfl,by dsimp only;omega,Nat.zero_le _,fun _ _=>rfl,by simp [val]⟩
 ·exact zh [(0,some 0)]
 rintro ⟨i,w,c,b⟩ ⟨h1,h2,h3,h4,h5,h6⟩
 dsimp only at h1 h2 h3 h4 h5 h6;have hll:(pre++(w++post)).length=pre.length+W.length+post.length:=by simp [h2];omega
 refine Br.mk (fun k1=>?_) (fun k1=>?_)
 ·refine Ob.o ?_;intro y hy;have hy:V[i]? =some y:=hy;have dy:=zK hy;have hyl:=y.isLt;have hm:q*y.val<=4294967296*4294967295:=Nat.mul_le_mul hq oM;refine Ar.o ?_;refine Ar.fit (by rw [← Int.natCast_mul];omega) ?_;refine Ar.fit (by rw [← Int.natCast_mul];omega) ?_;refine Ob.o5 ?_;refine Ob.mk (by rw [hll];omega) ?_;intro u hu;have hu:w[i]? =some u:=by rw [← zfx (pre:=pre) (post:=post) oM,← hu];congr 1
  have du:=zK hu;have hul:=u.isLt;refine Ar.o ?_;have ex:(c:Int)+(q:Int)*(y.val:Int)=((c+q*y.val:Nat):Int):=by simp
  refine ⟨_,(zu6 ex).symm,?_⟩;rw [ex];generalize hX:c+q*y.val=X at*;obtain ⟨t1,t2,t3⟩:=zgH (u:=u.val) (lo:=X % 4294967296) (b:=b) hul (Nat.mod_lt _ dC) h4;refine Ar.wrap ?_;refine Ar.wrap ?_;refine Ar.wrap ?_;refine Ob.o5 ?_;refine Ob.mk (by rw [hll];omega) ?_;intro z hz;refine ⟨dof (8589934592+u.val - X % 4294967296 - b),congrArg (fun n=>[u32 n]) t1,?_⟩;refine Ob.o1 ?_;refine Ob.o1 ?_;refine Ar.o ?_;generalize (if u.val < X % 4294967296+b then 1 else 0)=b' at*;have hb':b'<=1:=oM
  refine ⟨(i+1,w.set i (dof (8589934592+u.val - X % 4294967296 - b)),X / 4294967296,b'),⟨by dsimp only;omega,by simp [h2],by dsimp only;omega,hb',fun j hj=>?_,?_⟩,
   uP [(0,some 0)] rfl rfl rfl ⟨rfl,rfl,rfl,congrArg (fun n=>some (u64 n)) (by simp only [Int.reducePow];omega),congrArg (fun n=>some (u64 n)) t2,rfl,rfl,rfl,trivial⟩
    ⟨congrArg (fun l=>some (kU l)) (by rw [← zfy oM];congr 1),trivial⟩,by dsimp only;omega⟩
  ·dsimp only at hj ⊢;rw [jd,if_neg oM];exact h5 j oM
  ·dsimp only;rw [zG,zG,zG,Nat.pow_succ,dy,jd,if_pos ⟨rfl,oM⟩,zvV,← h5 i (Nat.le_refl _),du];have ht:(w.set i (dof (8589934592+u.val - X % 4294967296 - b))).take i=w.take i:=by rw [List.take_set_of_le oM]
   rw [ht];have hd:=Nat.div_add_mod X 4294967296;exact zpt h6 oM t3
 ·have hi:i=V.length:=by omega
  subst hi;intro hl9;refine Ob.o5 ?_;refine Ob.mk (by rw [hll];omega) ?_;intro u hu;have hu:w[V.length]? =some u:=by rw [← zfx (pre:=pre) (post:=post) oM,← hu];congr 1
  have du:=zK hu;have hul:=u.isLt;refine Ar.o ?_;obtain ⟨t1,t2,t3⟩:=zgH (u:=u.val) (lo:=c) (b:=b) hul h3 h4;refine Ar.wrap ?_;refine Ar.wrap ?_;intro hl10;refine Ar.wrap ?_;refine Ob.o5 ?_;refine Ob.mk (by rw [hll];omega) ?_;intro z hz;refine ⟨dof (8589934592+u.val - c - b),congrArg (fun n=>[u32 n]) t1,?_⟩;refine Ob.o1 ?_
  have ev:val (w.set V.length (dof (8589934592+u.val - c - b)))+q*val V=val W+4294967296 ^ W.length*(if u.val < c+b then 1 else 0):=by
   have e1:=uv w V.length (dof (8589934592+u.val - c - b)) oM;have e2:=ky w V.length;have e3:=zz w V.length;rw [zU (show w.length<=V.length+1 by omega),Nat.mul_zero,Nat.add_zero] at e3;rw [e3] at e2;have f2:=ky W V.length;have f3:=zz W V.length;rw [zU (show W.length<=V.length+1 by omega),Nat.mul_zero,Nat.add_zero] at f3;rw [f3] at f2;rw [kz (Nat.le_refl V.length)] at h6;rw [hW,Nat.pow_succ,f2,← h5 _ (Nat.le_refl _),du];rw [du] at e1 e2;rw [zvV] at e1;generalize (if u.val < c+b then 1 else 0)=b' at*
   generalize (8589934592+u.val - c - b) % 4294967296=u' at*;generalize 4294967296 ^ V.length=p at*;have e4:p*(u'+c+b)=p*(u.val+4294967296*b'):=by rw [t3]
   generalize u.val=u at*;generalize val (w.take V.length)=wt at*;generalize val (W.take V.length)=Wt at*;generalize q*val V=qv at*;clear h5 t1 t2
   grind
  have hvl:=qD (w.set V.length (dof (8589934592+u.val - c - b)));rw [List.length_set,h2] at hvl
  have hneg:(u.val < c+b)↔val W < q*val V:=by
   constructor
   ·intro h;rw [if_pos h] at ev;omega
   ·intro h
    by_cases hh:u.val < c+b
    ·exact hh
    ·rw [if_neg hh] at ev;omega
  have hfin:w.set V.length (dof (8589934592+u.val - c - b))=zln W V q:=by
   rw [← zod (w.set V.length (dof (8589934592+u.val - c - b)))];unfold zln;rw [List.length_set,h2];congr 1
   by_cases hh:val W < q*val V
   ·rw [if_pos hh];rw [if_pos (hneg.2 hh)] at ev;omega
   ·rw [if_neg hh];rw [if_neg (fun h=>hh (hneg.1 h))] at ev;omega
  refine ⟨congrArg (fun l=>some (kU l)) ?_,kZ ?_⟩
  ·rw [← hfin,← zfy oM];congr 1
  ·rw [t2,← hneg]
   by_cases hh:u.val < c+b
   ·simp [hh]
   ·simp [hh]
theorem zlo{α:Type}{enc:α->List SV}:LE (.val (.slice none 0 0)) (.full enc []):=fun S Pm ρ w v hg=>by
 rw [hg.val_inv];exact .d _ _ (.full enc [] none (.nil enc none))
theorem or32{x y:Nat}(hx:x < 4294967296)(hy:y < 4294967296):uW .or .u32 x y=((x|||y:Nat):Int):=by
 show IntKind.u32.wrap ((BitVec.ofInt 32 x|||BitVec.ofInt 32 y).toNat:Nat)=_;have h:x|||y < 2 ^ 32:=Nat.or_lt_two_pow hx hy
 have e:(BitVec.ofInt 32 x|||BitVec.ofInt 32 y).toNat=x|||y:=by
  rw [BitVec.toNat_or,BitVec.toNat_ofInt,BitVec.toNat_ofInt];congr 1
  ·omega
  ·omega
 rw [e,zgr];omega
theorem zu8{c x s p:Nat}(hp:p < 32)(hs:2 ^ p=s)(hc:c < s):c|||(x*s % 4294967296)=c+x*s % 4294967296/\c+x*s % 4294967296 < 4294967296:=by
 have h32:4294967296=s*2 ^ (32 - p):=by rw [← hs,← Nat.pow_add,show p+(32 - p)=32 by omega]
 have hm:x*s % 4294967296=s*(x % 2 ^ (32 - p)):=by rw [h32,Nat.mul_comm x s,Nat.mul_mod_mul_left]
 have hlt:x % 2 ^ (32 - p) < 2 ^ (32 - p):=Nat.mod_lt _ (Nat.pow_pos dC);have h1:=Nat.two_pow_add_eq_or_of_lt (i:=p) (b:=c) (by rw [hs];exact hc) (x % 2 ^ (32 - p));rw [hs] at h1;rw [hm,Nat.or_comm,← h1]
 have h2:s*(x % 2 ^ (32 - p))+s<=s*2 ^ (32 - p):=by
  rw [← Nat.mul_succ];exact Nat.mul_le_mul_left _ hlt
 rw [← h32] at h2;exact ⟨oM,oM⟩
theorem ztf{x y:Nat}{e:Int}(hx:x < 4294967296)(hy:y < 4294967296)(he:e=(y:Int)*2 ^ 32):uW .or .u64 x e=((y*4294967296+x:Nat):Int):=by
 have h1:e=((y*4294967296:Nat):Int):=by rw [he];simp only [Int.reducePow];omega
 rw [h1,zgv oM oM,Nat.or_comm];have:=Nat.two_pow_add_eq_or_of_lt (i:=32) (b:=x) (by rw [show 2 ^ 32=4294967296 by decide];exact hx) y;rw [show 2 ^ 32=4294967296 by decide,Nat.mul_comm] at this;rw [← this]
theorem zrh{p w s v x lo hi o o1 o2 q:Nat}(h:o=w*(s*v))(h1:o1+p*w*q=o+p*w*(q+lo))(h2:o2=o1+p*w*4294967296*hi)(e:4294967296*hi+lo=x*s):o2=w*(s*(v+p*x)):=by
 subst h2;subst h
 have:o1=w*(s*v)+p*w*lo:=by
  rw [Nat.mul_add (p*w) q lo] at h1;omega
 subst this
 grind
theorem zri(a0:List Dig)(n:Nat)(ha:a0.length<=800000000)(hn:n<=4096):
  zd Tryz.prog 271 [.sl dgE a0,i64 n] [] (.full dgE (zm (val a0*2 ^ n))) []:=by
 refine zc tok mix Tryz.func271 rfl rfl rfl ?_;refine zb.t (qy a0 oM) ?_;have la:=zB a0;have va:=zn (val a0);generalize zm (val a0)=a at*;rw [← va];clear va;have hs0:2 ^ (n % 32)<=2 ^ 31:=Nat.pow_le_pow_right dC oM;have hs1:0 < 2 ^ (n % 32):=Nat.pow_pos dC;generalize hs:2 ^ (n % 32)=s at*;refine Br.mk (fun h=>by omega) (fun h=>?_);have em:zac (n:Int) [4096]=n:=by simp only [zac];omega
 change Dv _ _ _ _;rw [em];refine Dv.pos ⟨oM,oM,by show _<=(9223372036854775807:Int);omega⟩ ?_;refine Dv.pos ⟨oM,oM⟩ ?_;intro hl7;(iterate 2 refine Ar.o ?_);refine ⟨Dig,dgE,0,rfl,Ob.o6 ?_⟩;intro hl8
 refine ⟨Nat×List Dig,fun ⟨i,out⟩=>⟨[(76,i64 i),(75,i64 a.length),(74,.sl dgE a),(9,i64 (n / 32:Nat)),(10,i64 (n % 32:Nat)),(11,.own 0)],[(0,kU out)],1,107,0⟩,
  fun q=>q.1<=a.length/\q.2.length=a.length+n / 32+1/\(∀j,q.1+n / 32 < j->dig q.2 j=0)/\dig q.2 (q.1+n / 32) < s/\val q.2=4294967296 ^ (n / 32)*(s*val (a.take q.1)),fun q=>a.length - q.1,(0,List.replicate (a.length+n / 32+1) 0),?_,?_,?_⟩
 ·refine ⟨Nat.zero_le _,by simp,fun j _=>jS _ _,by dsimp only;rw [jS];exact hs1,by simp [ve,val]⟩
 ·exact z0 [(0,some 0)] ⟨rfl,rfl,rfl,congrArg (fun n=>some (i64 n)) oM,congrArg (fun n=>some (i64 n)) oM,rfl,trivial⟩ ⟨congrArg (fun n=>some (kU (List.replicate n 0))) oM,trivial⟩
 rintro ⟨i,out⟩ ⟨h1,h2,h3,h4,h5⟩
 dsimp only at h1 h2 h3 h4 h5;refine Br.mk (fun h9=>?_) (fun h9=>?_)
 ·refine Ob.o ?_;intro x hx;have hx:a[i]? =some x:=hx;have dx:=zK hx;have hxl:=x.isLt;refine Ar.o ?_;refine Ob.o11 ?_;have hm:x.val*s<=4294967295*2 ^ 31:=Nat.mul_le_mul oM hs0
  have hm2:(x.val:Int)*2 ^ ((n % 32:Nat):Int).toNat=((x.val*s:Nat):Int):=by
   rw [← hs,Int.toNat_natCast];simp
  have hm3:x.val*s < 4294967296*s:=Nat.mul_lt_mul_of_pos_right hxl hs1;refine Ar.fit (by rw [hm2];omega) ?_;rw [hm2];refine Ar.o ?_;refine Ob.o ?_;refine Ob.o ?_;intro c hc;rw [show ((i:Int)+(n / 32:Nat)).toNat=i+n / 32 by omega] at hc;have dc:=zK hc;have hcl:=c.isLt;rw [dc] at h4;obtain ⟨o1,o2⟩:=zu8 (c:=c.val) (x:=x.val) (s:=s) (p:=n % 32) oM hs h4;refine Ar.wrap ?_;have ew:IntKind.u32.wrap ((x.val*s:Nat):Int)=((x.val*s % 4294967296:Nat):Int):=by rw [zgr];omega
  rw [ew];refine ⟨_,(or32 hcl (Nat.mod_lt _ dC)).symm,?_⟩;rw [o1];refine Ob.o ?_;refine Ob.o ?_;intro z hz;refine ⟨dof (c.val+x.val*s % 4294967296),congrArg (fun n=>[u32 n]) (by rw [zvV,Nat.mod_eq_of_lt o2]),?_⟩;(iterate 2 refine Ar.o ?_);refine Ob.o1 ?_;refine Ar.wrap ?_;refine Ob.mk (by rw [List.length_set];omega) ?_;refine Ob.mk (by rw [List.length_set];omega) ?_;intro z2 hz2;have hhi:x.val*s / 4294967296 < s:=by rw [Nat.div_lt_iff_lt_mul dC];omega
  refine ⟨dof (x.val*s / 4294967296),congrArg (fun n=>[u32 n]) (vy (by simp only [Int.reducePow];omega)),?_⟩;refine Ar.o ?_;have ei:((i:Int)+(n / 32:Nat)).toNat=i+n / 32:=oM;have ei1:((i:Int)+(n / 32:Nat)+1).toNat=i+n / 32+1:=oM
  refine ⟨(i+1,(out.set (i+n / 32) (dof (c.val+x.val*s % 4294967296))).set (i+n / 32+1) (dof (x.val*s / 4294967296))),⟨by dsimp only;omega,by simp [h2],fun j hj=>?_,?_,?_⟩,
   zM [(0,some 0)] ⟨congrArg (fun l=>some (kU l)) (by rw [ei,ei1]),trivial⟩,by dsimp only;omega⟩
  ·dsimp only at hj ⊢;rw [jd,if_neg oM,jd,if_neg oM];exact h3 j oM
  ·dsimp only;rw [show i+1+n / 32=i+n / 32+1 by omega,jd,if_pos ⟨rfl,by rw [List.length_set];omega⟩,zvV,Nat.mod_eq_of_lt oM];exact hhi
  ·dsimp only;have s1:=uv out (i+n / 32) (dof (c.val+x.val*s % 4294967296)) oM;have s2:=uv (out.set (i+n / 32) (dof (c.val+x.val*s % 4294967296))) (i+n / 32+1) (dof (x.val*s / 4294967296)) (by rw [List.length_set];omega);rw [zvV,Nat.mod_eq_of_lt o2,dc,Nat.pow_add] at s1;have hmm:x.val*s / 4294967296 % 4294967296=x.val*s / 4294967296:=Nat.mod_eq_of_lt oM;rw [jd,if_neg oM,h3 _ oM,Nat.mul_zero,Nat.add_zero,zvV,hmm,Nat.pow_succ,Nat.pow_add] at s2;rw [zG,dx];exact zrh h5 s1 s2 (Nat.div_add_mod _ _)
 ·have hi:i=a.length:=by omega
  subst hi;rw [kz (Nat.le_refl _),← hs,vw,← Nat.mul_assoc,← Nat.pow_add,show 32*(n / 32)+n % 32=n by omega,Nat.mul_comm] at h5;refine zb.see 0 _ (zjF out oM) rfl rfl rfl ?_;rw [h5];exact .refl
theorem n_shr(a0:List Dig)(n:Nat)(ha:a0.length<=800000000)(hn:n<=1000000000000)(hn0:n≠0):
  zd Tryz.prog 271 [.sl dgE a0,i64 (-(n:Int))] [] (.full dgE (zm (val a0 / 2 ^ n))) []:=by
 refine zc tok mix Tryz.func271 rfl rfl rfl ?_;refine zb.t (qy a0 oM) ?_;have la:=zB a0;have va:=zn (val a0);generalize zm (val a0)=a at*;rw [← va];clear va;refine Br.mk (fun h=>?_) (fun h=>by omega);intro hl2;refine Ar.o ?_;refine Br.mk (fun h3=>?_) (fun h3=>?_)
 ·have e:val a / 2 ^ n=0:=by
   refine Nat.div_eq_of_lt (Nat.lt_of_lt_of_le (qD a) ?_);rw [vw];exact Nat.pow_le_pow_right dC oM
  rw [e,qV];exact zlo
 refine Ar.o ?_;refine Dv.pos ⟨oM,oM,by show _<=(9223372036854775807:Int);omega⟩ ?_;refine Ar.o ?_;refine Dv.pos ⟨oM,oM⟩ ?_;intro hl4;refine Ar.o ?_;refine ⟨Dig,dgE,0,rfl,Ob.o6 ?_⟩;intro hl5
 refine ⟨Nat×List Dig,fun ⟨i,out⟩=>⟨[(37,i64 i),(36,i64 (a.length - n / 32:Nat)),(0,.sl dgE a),(5,i64 (n / 32:Nat)),(6,i64 (n % 32:Nat)),(7,.own 0)],[(0,kU out)],1,107,0⟩,
  fun q=>q.1<=a.length - n / 32/\q.2.length=a.length - n / 32/\∀j,j < q.1->dig q.2 j=val a / 2 ^ n / 4294967296 ^ j % 4294967296,fun q=>a.length - n / 32 - q.1,(0,List.replicate (a.length - n / 32) 0),?_,?_,?_⟩
 ·exact ⟨Nat.zero_le _,by simp,fun j h=>by dsimp only at h;omega⟩
 ·exact z0 [(0,some 0)] ⟨rfl,congrArg (fun n=>some (i64 n)) (by simp;omega),rfl,congrArg (fun n=>some (i64 n)) oM,congrArg (fun n=>some (i64 n)) oM,rfl,trivial⟩ ⟨congrArg (fun n=>some (kU (List.replicate n 0))) oM,trivial⟩
 rintro ⟨i,out⟩ ⟨g1,g2,g3⟩
 dsimp only at g1 g2 g3;refine Br.mk (fun h6=>?_) (fun h6=>?_)
 ·have d1:=jU a (n / 32+i);have d2:=jU a (n / 32+i+1);refine Ar.o ?_;refine zb.t (zcu a _ oM) ?_;rw [show ((i:Int)+(n / 32:Nat)).toNat=n / 32+i by omega];(iterate 2 refine Ar.o ?_);refine zb.t (zcu a _ oM) ?_;rw [show ((i:Int)+(n / 32:Nat)+1).toNat=n / 32+i+1 by omega];refine Ob.o1 ?_;refine Ar.fit (by simp only [Int.reducePow];omega) ?_;refine ⟨_,(ztf d1 d2 rfl).symm,?_⟩;refine Ob.o11 ?_;refine Ar.wrap ?_;refine Ob.o ?_;refine Ob.o ?_;intro z hz
  refine ⟨dof ((dig a (n / 32+i+1)*4294967296+dig a (n / 32+i)) / 2 ^ (n % 32)),congrArg (fun n=>[u32 n]) (vy (by rw [Int.toNat_natCast];simp)),?_⟩;refine Ar.o ?_
  refine ⟨(i+1,out.set i (dof ((dig a (n / 32+i+1)*4294967296+dig a (n / 32+i)) / 2 ^ (n % 32)))),⟨by dsimp only;omega,by simp [g2],fun j hj=>?_⟩,
   zh [(0,some 0)],by dsimp only;omega⟩
  dsimp only at hj ⊢
  by_cases e:i=j
  ·subst e;rw [jd,if_pos ⟨rfl,oM⟩,zvV];have:=znW a (n / 32) (n % 32) i oM;rw [show 32*(n / 32)+n % 32=n by omega] at this;rw [this]
  ·rw [jd,if_neg (fun h=>e h.1)];exact g3 j oM
 ·have hi:i=a.length - n / 32:=by omega
  have e:val out=val a / 2 ^ n:=by
   rw [zbN (fun j hj=>g3 j oM),Nat.mod_eq_of_lt];rw [Nat.div_lt_iff_lt_mul (Nat.pow_pos dC)];refine Nat.lt_of_lt_of_le (qD a) ?_;rw [vw,vw,← Nat.pow_add];exact Nat.pow_le_pow_right dC oM
  refine zb.see 0 _ (zjF out oM) rfl rfl rfl ?_;rw [e];exact .refl
theorem zjG{s:ByteArray}{i:Nat}{b:UInt8}(hb:s[i]? =some b)(hi:i < s.size)(key:∀h:i < s.size,(s[i]'h).toNat=bitLen i):b.toNat=z7 i:=by
 have e:=getElem?_pos s i hi;rw [hb] at e;rw [Option.some.inj e];exact key hi
theorem zbW{x:Nat}(b:Nat)(h:2 ^ b<=x):z7 x=b+z7 (x / 2 ^ b):=
 bitLen_shift x b (Nat.ne_of_gt (Nat.div_pos h (Nat.pow_pos dC)))
theorem zof(x:Nat)(hx:x < 4294967296):zd Tryz.prog 301 [u32 x] [] (i64 (z7 x)) []:=by
 refine zc tok mix Tryz.func301 rfl rfl rfl ?_;have fin:∀(y:Nat) (k:Int),y < 256->(z7 x:Int)=k+z7 y->∀b:UInt8,b.toNat=z7 y->(k+(b.toNat:Int))=z7 x:=fun y k _ h b hb=>by rw [h,hb]
 have small:∀y:Nat,y < 256->z7 y<=8:=fun y hy=>bitLen_le8 y hy
 refine Br.mk (fun h1=>?_) (fun h1=>?_)
 ·refine Ob.o1 ?_;have e1:(x:Int) / 2 ^ 16=((x / 65536:Nat):Int):=by simp
  rw [e1];have n1:=zbW (x:=x) 16 oM;rw [show (2:Nat) ^ 16=65536 by decide] at n1;have hx1:x / 65536 < 65536:=oM;generalize x / 65536=y at*;refine Br.mk (fun h2=>?_) (fun h2=>?_)
  ·refine Ob.o1 ?_;have e2:(y:Int) / 2 ^ 8=((y / 256:Nat):Int):=by simp
   rw [e2];have n2:=zbW (x:=y) 8 oM;rw [show (2:Nat) ^ 8=256 by decide] at n2;have hy1:y / 256 < 256:=oM;generalize y / 256=z at*;(iterate 2 refine Ar.o ?_);refine Ob.o12 ?_;intro b hb;have hb':b.toNat=z7 z:=zjG hb (by show z < 256;exact hy1) (fun h=>len8tab_get z h);have:=small z hy1;(iterate 2 refine Ar.o ?_);exact zu oM
  ·have hy1:y < 256:=by omega
   refine Ar.o ?_;refine Ob.o12 ?_;intro b hb;have hb':b.toNat=z7 y:=zjG hb (by show y < 256;exact hy1) (fun h=>len8tab_get y h);have:=small y hy1;(iterate 2 refine Ar.o ?_);exact zu oM
 ·refine Br.mk (fun h2=>?_) (fun h2=>?_)
  ·refine Ob.o1 ?_;have e2:(x:Int) / 2 ^ 8=((x / 256:Nat):Int):=by simp
   rw [e2];have n2:=zbW (x:=x) 8 oM;rw [show (2:Nat) ^ 8=256 by decide] at n2;have hy1:x / 256 < 256:=oM;generalize x / 256=z at*;(iterate 2 refine Ar.o ?_);refine Ob.o12 ?_;intro b hb;have hb':b.toNat=z7 z:=zjG hb (by show z < 256;exact hy1) (fun h=>len8tab_get z h);have:=small z hy1;(iterate 2 refine Ar.o ?_);exact zu oM
  ·have hy1:x < 256:=by omega
   refine Ar.o ?_;refine Ob.o12 ?_;intro b hb;have hb':b.toNat=z7 x:=zjG hb (by show x < 256;exact hy1) (fun h=>len8tab_get x h);have:=small x hy1;(iterate 2 refine Ar.o ?_);exact zu oM
theorem zjH{x:Nat}(hx:x < 4294967296):z7 x<=32:=by
 by_cases h:x=0
 ·subst h;decide
 ·have:=vv h;have:=(Nat.pow_lt_pow_iff_right (by decide:1 < 2)).1 (Nat.lt_of_le_of_lt this (show x < 2 ^ 32 from hx));omega
theorem zu9(x:Nat)(hx:x < 4294967296):zd Tryz.prog 270 [u32 x] [] (i64 (32 - z7 x:Nat)) []:=by
 refine zc tok mix Tryz.func270 rfl rfl rfl ?_;refine zb.t (zof x hx) ?_;have:=zjH hx;refine Ar.o ?_;exact zu oM
theorem zlp(a:List Dig)(ha:a.length<=900000000):zd Tryz.prog 267 [.sl dgE a] [] (i64 (z7 (val a))) []:=by
 refine zc tok mix Tryz.func267 rfl rfl rfl ?_;refine zb.t (qy _ oM) ?_;intro hl;have hlen:=zB a;refine Br.mk (fun h=>?_) (fun h=>?_)
 ·have:zm (val a)=[]:=List.length_eq_zero_iff.1 oM;exact zu (by rw [jO.1 this];rfl)
 have hne:zm (val a)≠[]:=fun e=>h (by rw [e];rfl)
 have hn:=(ug (val a)).resolve_left hne;have htop:=zar hn;rw [zn] at htop;intro hl2;(iterate 2 refine Ar.o ?_);intro hl3;refine Ar.o ?_;refine Ob.o ?_;intro x hx;rw [show (((zm (val a)).length:Int) - 1).toNat=(zm (val a)).length - 1 by omega] at hx;have dx:=zK hx;have hxl:=x.isLt;refine zb.t (zof x.val hxl) ?_;rw [dx] at htop;have:=zjH hxl;refine Ar.o ?_;exact zu oM
theorem zva(a:List Dig)(n:Nat)(ha:a.length<=800000000)(hn:n<=1000000000000):
  zd Tryz.prog 271 [.sl dgE a,i64 (-(n:Int))] [] (.sl dgE (zm (val a / 2 ^ n))) []:=by
 by_cases h:n=0
 ·subst h;have:=(zri a 0 ha oM).le (za0 rfl);rw [Nat.pow_zero,Nat.mul_one] at this;rw [Nat.pow_zero,Nat.div_one];exact this
 ·exact (n_shr a n ha hn h).le (za0 rfl)
theorem zvb(a:List Dig)(n:Nat)(ha:a.length<=800000000)(hn:n<=4096):
  zd Tryz.prog 271 [.sl dgE a,i64 n] [] (.sl dgE (zm (val a*2 ^ n))) []:=(zri a n ha hn).le (za0 rfl)
end Go.Gs
