/- THE LAW Translation. -/
import Derived.Test.YtplllpkdmehklaaGreatDoorMA
import Derived.Test.YtplllpkdmehklaaGreatDoorMBX
import Derived.Test.YtplllpkdmehklaaGreatDoorMBW
import Derived.Test.YtplllpkdmehklaaGreatDoorMAX
import Derived.Test.YtplllpkdmehklaaGreatDoorMBR
import Derived.Test.YtplllpkdmehklaaGreatDoorChecked
import Derived.Test.YtplllpkdmehklaaGreatDoorMBS
import Derived.LaidLaws
import Derived.LaidHandle
import Derived.Stop.Joined
import Derived.Test.YtplllpkdmehklaaGreatDoorRows
set_option maxRecDepth 100000
set_option maxHeartbeats 8000000
set_option linter.all false
namespace Go.Gs
open Go.Proofs
theorem zuL{l:List Sg}{t:AF}{tol:Int}:(ym l t tol).1.length<=100000:=by
 unfold ym
 split
 ·exact Nat.zero_le _
 split
 ·exact Nat.zero_le _
 ·have h3:=zoH (kr (trans t l).1 tol).1;have h4:=(zdq (trans t l).1 tol).1;show (yM (kr (trans t l).1 tol).1).length<=100000;omega
theorem zuM(rs:List (List Pt))(t:AF):(vg rs t).1.length<=rs.length:=by
 unfold vg
 split
 ·exact Nat.zero_le _
 split
 ·exact Nat.zero_le _
 ·show (rs.map (zcl t)).length<=_;rw [List.length_map];exact Nat.le_refl _
theorem zyn{l:List Sg}{pen:Pen}{t:AF}{tol:Int}:(v9 l pen t tol).1.length<=100000:=by
 have sm:=(zdz (jk (kr l tol).1 pen).1 pen).1;have h:=zuM (jh (jk (kr l tol).1 pen).1 pen).1 t;unfold v9
 split
 ·exact Nat.zero_le _
 split
 ·exact Nat.zero_le _
 split
 ·exact Nat.zero_le _
 split
 ·exact Nat.zero_le _
 ·omega
theorem zj5(w:AF×Int)(l:List Sg):(yH w l).length<=100000:=by
 unfold yH
 split
 ·exact Nat.zero_le _
 ·exact zuL
theorem zyo(w:AF×Int)(l:List Sg)(pen:Pen):(vU w l pen).length<=100000:=by
 unfold vU
 split
 ·exact Nat.zero_le _
 ·exact zyn
theorem zyp(s:Sc)(k:Int):(kq (kK s k)/\(kK s k).length<=100000)/\(kq (qz s k)/\(qz s k).length<=100000)/\(kq (yj s k)/\(yj s k).length<=100000)/\(kq (jR s k)/\(jR s k).length<=100000):=by
 have z:kq []/\([]:List (List Pt)).length<=100000:=⟨zar,Nat.zero_le _⟩;refine ⟨?_,?_,?_,?_⟩
 ·unfold kK;split
  ·exact z
  ·exact ⟨zbM _ _,zj5 _ _⟩
 ·rw [zgc];split
  ·exact z
  ·exact ⟨zlL _ _ _,zyo _ _ _⟩
 ·unfold yj;split
  ·exact z
  ·exact ⟨zbM _ _,zj5 _ _⟩
 ·unfold jR;split
  ·exact z
  ·exact ⟨zbM _ _,zj5 _ _⟩
theorem zyq{s:Sc}{q:Nat}(h:inS s q):∃(i:Nat) (n:Nd),(zm8 s q)[0]? =some (i:Int)/\s.ns[i]? =some n/\n.d=0:=by
 obtain ⟨m,hm⟩:=u6 h;have hm:s.ns[q]? =some m:=hm;have hs:=zba h.1;have h0:=(vz h.1 m (List.mem_of_getElem? hm)).1;obtain ⟨d,hd⟩:∃d:Nat,m.d=(d:Int):=⟨m.d.toNat,oM⟩;have hD:(zA s.ns)[q]? =some (d:Int):=by rw [yi hm,hd]
 have hl:=zbK hs hD;obtain ⟨a,ha⟩:∃a,(qg (zA s.ns) q)[d]? =some a:=⟨_,List.getElem?_eq_getElem oM⟩;have hda:=zbJ hs hD ha;obtain ⟨n,hn,hnd⟩:=vy hda;exact ⟨a,n,zCc h oM (by rw [hl];exact ha),hn,oM⟩
theorem zyr{s:Sc}{i:Nat}{n:Nd}{t:AF}{x y:Int}(hn:s.ns[i]? =some n)(h0:n.d=0)(hv:qx s)(hv':qx (mvS s i n t))(ht:t.same (beh n.t (tr x y))){k:Nat}(hk:k < s.ns.length):
  (((k:Int) < (i:Int)∨zf9 s i<=(k:Int))->kK (mvS s i n t) k=kK s k/\qz (mvS s i n t) k=qz s k/\yj (mvS s i n t) k=yj s k/\jR (mvS s i n t) k=jR s k)/\
  (¬((k:Int) < (i:Int)∨zf9 s i<=(k:Int))->(kK s k≠[]->kK (mvS s i n t) k≠[]->kK (mvS s i n t) k=(kK s k).map (List.map (sh x y)))/\
   (qz s k≠[]->qz (mvS s i n t) k≠[]->qz (mvS s i n t) k=(qz s k).map (List.map (sh x y)))/\
   (yj s k≠[]->yj (mvS s i n t) k≠[]->yj (mvS s i n t) k=(yj s k).map (List.map (sh x y)))/\(jR s k≠[]->jR (mvS s i n t) k≠[]->jR (mvS s i n t) k=(jR s k).map (List.map (sh x y)))):=by
 have hs:=zba hv;have hil:=(List.getElem?_eq_some_iff.1 hn).1;have hdl:(zA s.ns).length=s.ns.length:=by unfold zA;rw [List.length_map]
 have hi0:(zA s.ns)[i]? =some 0:=by rw [yi hn,h0]
 have eg:(zA s.ns).getD i 0=0:=by rw [List.getD_eq_getElem?_getD,hi0];rfl
 have ee:zf9 s i=(zgR (zA s.ns) i:Int):=if_pos ⟨hv,oM,oM⟩;obtain ⟨s1,s2,s3⟩:=zgQ (zA s.ns) 0 ((zA s.ns).length - (i+1)) (i+1) oM oM;have eN:zgR (zA s.ns) i=zj0 (zA s.ns) 0 ((zA s.ns).length - (i+1)) (i+1):=by unfold zgR;rw [eg]
 rw [← eN] at s1 s2 s3;obtain ⟨m,hm⟩:∃m,s.ns[k]? =some m:=⟨_,List.getElem?_eq_getElem hk⟩;have hkd:=yi hm;have hk0:=(vz hv m (List.mem_of_getElem? hm)).1;rw [ee];refine ⟨fun h=>?_,fun h=>?_⟩
 ·have ho:k < i∨(i < zgR (zA s.ns) i/\(zA s.ns)[zgR (zA s.ns) i]? =some 0/\zgR (zA s.ns) i<=k):=by
   rcases h with h | h
   ·exact .inl oM
   ·refine .inr ⟨oM,?_,oM⟩;obtain ⟨e,he⟩:∃e,(zA s.ns)[zgR (zA s.ns) i]? =some e:=⟨_,List.getElem?_eq_getElem oM⟩;have h1:=s3 e he;have h2:=hs.2.1 e (List.mem_of_getElem? he);rw [he,show e=0 by omega]
  obtain ⟨a,b⟩:=zCq hn hv hv' (zuG hs hkd ho);exact zyj a b
 ·obtain ⟨d,hd⟩:∃d:Nat,m.d=(d:Int):=⟨m.d.toNat,oM⟩
  obtain ⟨p,hc,hp⟩:=zyf hs hi0 (by rw [hkd,hd]) (show i<=k by omega) (fun j x j1 j2 hx=>by
   obtain ⟨z,hz,hz0⟩:=s2 j oM oM
   rw [hx] at hz;cases hz;exact hz0)
  exact zuI (zAf hn hv hv' hk) fun w1 w2=>mv_in hn hv hv' ht hk hc hp w1 w2
theorem zj6{t u:AF}(h:(qt [t,u]).2=0):(qt [t,u]).1.same (beh t u):=by
 rw [zaX h];refine qD (uK t [u]) ?_;have e:(kF [u]).same u:=qD (uK u []) (zdD _);rw [y4 (qH t) e];exact qH _
theorem near(q m:Int)(hm:0 < m): -m < q.tmod m/\q.tmod m < m:=by
 rcases tdm (m:=q) (n:=m) hm with h | h <;> omega
theorem st_le{s:Sc}{i:Nat}{n:Nd}{t:AF}(hf:jH s)(hn:s.ns[i]? =some n)(ht:t.le 100):jH (mvS s i n t):=fun hl m hm=>by
 rw [zgT] at hl;obtain ⟨j,hj⟩:=List.mem_iff_getElem?.1 hm
 by_cases c:j=i
 ·subst c;rw [zng hn] at hj
  cases hj
  obtain ⟨a,b,d⟩:=hf hl n (List.mem_of_getElem? hn);exact ⟨ht,⟨ht.up dC,b.2⟩,d⟩
 ·rw [zgb c] at hj;exact hf hl m (List.mem_of_getElem? hj)
theorem zj7(a:Int):0<=IntKind.u64.wrap a:=Int.emod_nonneg _ dC
abbrev lsE(a b c d:List (List Pt)):List SV:=[.sl zu a,.sl zu b,.sl zu c,.sl zu d]
theorem l_geoTranslation(s:Sc)(i0 b0 b1:Int):zd Tryz.prog 3 [.agg (scE s),i64 i0,.agg [i64 b0,i64 b1]] [] (bl true) []:=by
 refine zc tok mix Tryz.func3 rfl rfl rfl ?_;refine zkb.data ?_;refine zb.t (zjZ s) ?_;refine Br.mk (fun _=>zb.to _ kD rfl .refl) (fun h=>?_);have hlt:=Decidable.not_not.1 h;have ht:=znc hlt;refine zb.t (zdB s ht.tame) ?_;refine Br.mk (fun _=>zb.to _ kD rfl .refl) (fun hv=>?_);have hv:=Decidable.not_not.1 hv;have hl64:=yV hv;have hl8:s.ns.length<=8:=by have:=hlt.1;omega
 intro hl0;refine Br.mk (fun _=>zb.to _ kD rfl .refl) (fun hne=>?_);have hne:¬(s.ns.length:Int)=0:=hne;refine Dr.d ?_;refine Ar.wrap ?_;intro hl1;refine Ar.o ?_;refine Dv.pos ⟨zj7 _,oM⟩ ?_;have ri:=Int.emod_nonneg (IntKind.u64.wrap i0) (show (s.ns.length:Int)≠0 by omega);have ri2:=Int.emod_lt_of_pos (IntKind.u64.wrap i0) (show 0 < (s.ns.length:Int) by omega);obtain ⟨q,hq⟩:∃q:Nat,IntKind.u64.wrap i0 % (s.ns.length:Int)=(q:Int):=⟨(IntKind.u64.wrap i0 % (s.ns.length:Int)).toNat,oM⟩;rw [hq] at ri ri2 ⊢;clear hq;refine Ar.o ?_
 obtain ⟨i,n,hi,hn,hnd⟩:=zyq (s:=s) (q:=q) ⟨hv,oM,oM⟩;have hil:=(List.getElem?_eq_some_iff.1 hn).1;have hal:=(List.getElem?_eq_some_iff.1 hi).1;refine zb.t (zxY s q ht.tame) ?_;refine Ob.o ?_;intro z hz;have hz:z=(i:Int):=Option.some.inj ((show (zm8 s q)[0]? =some z from hz).symm.trans hi);rw [hz];refine Ob.mk (by kernel_rfl) ?_;have m0:=near b0 1000 dC;have m1:=near b1 1000 dC;refine Dr.k ?_;refine Dv.any dC ?_;generalize b0.tmod 1000=z0 at*;refine Ar.o ?_;refine Dv.any dC ?_;generalize b1.tmod 1000=z1 at*;refine Ar.o ?_
 obtain ⟨x,ex⟩:∃x,256*z0=x:=⟨_,rfl⟩;obtain ⟨y,ey⟩:∃y,256*z1=y:=⟨_,rfl⟩;rw [ex,ey];have rx:R64 x:=by unfold R64;omega
 have ry:R64 y:=by unfold R64;omega
 have hp:zn ⟨x,y⟩:=by unfold zn;dsimp only;omega
 clear m0 m1;have lx:=qU rx;have ly:=qU ry;have hT:=zsL (ofQ (x:Rat)) (ofQ (y:Rat)) oM oM;rw [zV,zV] at hT;have hT:zd Tryz.prog 11 [.agg (brE (ofQ (x:Rat))),.agg (brE (ofQ (y:Rat)))] [] (.agg (afE (tr x y))) []:=hT;refine Dr.d ?_;refine Ob.o ?_;intro z hz;have hz:z=n:=Option.some.inj ((show s.ns[i]? =some z from hz).symm.trans hn);rw [hz];refine zb.t (qn x rx) ?_;refine zb.t (qn y ry) ?_;refine zb.t hT ?_
 have htr:(tr x y).le 100:=by
  have one:=qU (show R64 1 by decide);have zero:=qU (show R64 0 by decide);exact ⟨by show (ofQ _).len<=_;omega,by show (ofQ _).len<=_;omega,by show (ofQ _).len<=_;omega,by show (ofQ _).len<=_;omega,by show (ofQ _).len<=_;omega,by show (ofQ _).len<=_;omega⟩
 have hnf:=ht hl64 n (List.mem_of_getElem? hn);refine ⟨AF,afE,[n.t,tr x y],rfl,Ob.o0 ?_⟩;refine zb.see 1 _ (zcm [n.t,tr x y] fun z hz=>?_) rfl rfl rfl ?_
 ·rcases List.mem_cons.1 hz with rfl | hz
  ·exact hnf.1
  ·rw [List.mem_singleton.1 hz];exact htr
 refine Ob.mk (by kernel_rfl) ?_;refine zb.fresh _ _ (zpu s oM fun m hm=>hlt.2 m (by rw [List.take_of_length_le oM];exact hm)) rfl (fun _ _=>rfl) (.inl rfl) ?_;obtain ⟨t,ht0⟩:∃t,(qt [n.t,tr x y]).1=t:=⟨_,rfl⟩;have htl:t.le 100:=by rw [← ht0];exact zf4
 have hts:(qt [n.t,tr x y]).2=0->t.same (beh n.t (tr x y)):=fun h=>by rw [← ht0];exact zj6 h
 rw [ht0];clear ht0;refine Ob.o ?_;refine Ob.o ?_;intro z hz;have hz:z=n:=Option.some.inj ((show s.ns[i]? =some z from hz).symm.trans hn);rw [hz];refine ⟨setT n t,rfl,?_⟩;refine Br.mk (fun _=>zb.to _ kD rfl .refl) (fun e=>?_);have e:=hts (Decidable.not_not.1 e);have htm:=st_le ht hn htl;refine zb.t (zdB (mvS s i n t) htm.tame) ?_;refine Br.mk (fun _=>zb.to _ kD rfl .refl) (fun hv'=>?_);have hv':=Decidable.not_not.1 hv';intro hl2
 refine ⟨Nat,fun k=>⟨[(86,i64 (k:Int)),(85,i64 (s.ns.length:Int)),(1,i64 (i:Int)),(7,i64 x),(8,i64 y),(3,.loc 0 0),(11,.loc 1 0)],[(1,.box 26 (scE (mvS s i n t))),(0,.box 26 (scE s))],2,145,0⟩,fun k=>k<=s.ns.length,fun k=>s.ns.length - k,0,Nat.zero_le _,?_,?_⟩
 ·exact (zpy 3 4 (enc:=ndE) (ys:=(mvS s i n t).ns) (cs:=scO (mvS s i n t) 3) (cs':=scE (mvS s i n t)) rfl rfl rfl (znd (row:=scO (mvS s i n t) 3) (c:=6) (k:=3) rfl)).trans
   (zf [(0,some 0),(1,some 4)])
 rintro k hk
 have hk:k<=s.ns.length:=hk;refine Br.mk (fun g=>?_) (fun g=>zb.to _ kD rfl .refl);have g:(k:Int) < s.ns.length:=g;obtain ⟨fO,fI⟩:=zyr hn hnd hv hv' e (show k < s.ns.length by omega);obtain ⟨⟨ga1,ga2⟩,⟨gb1,gb2⟩,⟨gc1,gc2⟩,gd1,gd2⟩:=zyp s k;have c1:=zpw s k ht;have c2:=zpw (mvS s i n t) k htm;unfold allE at c1 c2;generalize kK s k=a0 at*;generalize qz s k=a1 at*;generalize yj s k=a2 at*;generalize jR s k=a3 at*;generalize kK (mvS s i n t) k=d0 at*;generalize qz (mvS s i n t) k=d1 at*;generalize yj (mvS s i n t) k=d2 at*
 generalize jR (mvS s i n t) k=d3 at*;refine Dr.d ?_;refine zb.t c1 ?_;refine zb.t c2 ?_;refine Ob.mk (by kernel_rfl) ?_
 refine ⟨Nat,fun m=>⟨[(95,i64 (m:Int)),(12,i64 (k:Int)),(86,i64 (k:Int)),(85,i64 (s.ns.length:Int)),(1,i64 (i:Int)),(7,i64 x),(8,i64 y),(3,.loc 0 0),(11,.loc 1 0),(13,.loc 2 0),(14,.loc 3 0)],
  [(3,.box 57 (lsE d0 d1 d2 d3)),(2,.box 57 (lsE a0 a1 a2 a3)),(1,.box 26 (scE (mvS s i n t))),(0,.box 26 (scE s))],4,145,0⟩,fun m=>m<=4,fun m=>4 - m,0,Nat.zero_le _,?_,?_⟩
 ·exact zf [(0,some 0),(1,some 1),(2,some 2),(3,some 3)]
 rintro m hm
 have hm:m<=4:=hm;have hm5:m=0∨m=1∨m=2∨m=3∨m=4:=oM
 rcases hm5 with rfl | rfl | rfl | rfl | rfl
 ·refine Br.y ?_;refine Br.mk (fun c1=>?_) (fun c1=>?_)
  ·have c1:(k:Int) < (i:Int):=c1;refine Dr.d ?_;refine zb.t (vq a0 d0) ?_;refine Ob.mk (by kernel_rfl) ?_;refine Br.mk (fun k=>absurd (fO (.inl c1)).1.symm k) (fun _=>?_);refine Ar.fit dC ?_;exact ⟨0+1,dC,zf [(0,some 0),(1,some 1),(2,some 2),(3,some 3)],dC⟩
  have c1:¬(k:Int) < (i:Int):=c1;refine zb.t (znf s i ht.tame) ?_;refine Br.mk (fun c2=>?_) (fun c2=>?_)
  ·have c2:zf9 s i<=(k:Int):=c2;refine Dr.d ?_;refine zb.t (vq a0 d0) ?_;refine Ob.mk (by kernel_rfl) ?_;refine Br.mk (fun k=>absurd (fO (.inr c2)).1.symm k) (fun _=>?_);refine Ar.fit dC ?_;exact ⟨0+1,dC,zf [(0,some 0),(1,some 1),(2,some 2),(3,some 3)],dC⟩
  have c2:¬zf9 s i<=(k:Int):=c2;have fJ:=(fI fun k=>k.elim c1 c2).1;refine Dr.d ?_;intro hl3;refine Br.mk (fun p1=>?_) (fun p1=>?_);rotate_left
  ·refine Ob.mk (by kernel_rfl) ?_;refine Ar.fit dC ?_;exact ⟨0+1,dC,zf [(0,some 0),(1,some 1),(2,some 2),(3,some 3)],dC⟩
  have p1:0 < (a0.length:Int):=p1;intro hl4;refine Br.mk (fun p2=>?_) (fun p2=>?_);rotate_left
  ·refine Ob.mk (by kernel_rfl) ?_;refine Ar.fit dC ?_;exact ⟨0+1,dC,zf [(0,some 0),(1,some 1),(2,some 2),(3,some 3)],dC⟩
  have p2:0 < (d0.length:Int):=p2;refine zb.t (zed a0 ⟨x,y⟩ ga1 hp ga2) ?_;refine zb.t (vq d0 (a0.map (List.map (sh x y)))) ?_;refine Ob.mk (by kernel_rfl) ?_;refine Br.mk (fun k=>absurd (fJ (fun q=>by rw [q] at p1;exact absurd p1 dC) (fun q=>by rw [q] at p2;exact absurd p2 dC)) k) (fun _=>?_);refine Ar.fit dC ?_;exact ⟨0+1,dC,zf [(0,some 0),(1,some 1),(2,some 2),(3,some 3)],dC⟩
 ·refine Br.y ?_;refine Br.mk (fun c1=>?_) (fun c1=>?_)
  ·have c1:(k:Int) < (i:Int):=c1;refine Dr.d ?_;refine zb.t (vq a1 d1) ?_;refine Ob.mk (by kernel_rfl) ?_;refine Br.mk (fun k=>absurd (fO (.inl c1)).2.1.symm k) (fun _=>?_);refine Ar.fit dC ?_;exact ⟨1+1,dC,zf [(0,some 0),(1,some 1),(2,some 2),(3,some 3)],dC⟩
  have c1:¬(k:Int) < (i:Int):=c1;refine zb.t (znf s i ht.tame) ?_;refine Br.mk (fun c2=>?_) (fun c2=>?_)
  ·have c2:zf9 s i<=(k:Int):=c2;refine Dr.d ?_;refine zb.t (vq a1 d1) ?_;refine Ob.mk (by kernel_rfl) ?_;refine Br.mk (fun k=>absurd (fO (.inr c2)).2.1.symm k) (fun _=>?_);refine Ar.fit dC ?_;exact ⟨1+1,dC,zf [(0,some 0),(1,some 1),(2,some 2),(3,some 3)],dC⟩
  have c2:¬zf9 s i<=(k:Int):=c2;have fJ:=(fI fun k=>k.elim c1 c2).2.1;refine Dr.d ?_;intro hl3;refine Br.mk (fun p1=>?_) (fun p1=>?_);rotate_left
  ·refine Ob.mk (by kernel_rfl) ?_;refine Ar.fit dC ?_;exact ⟨1+1,dC,zf [(0,some 0),(1,some 1),(2,some 2),(3,some 3)],dC⟩
  have p1:0 < (a1.length:Int):=p1;intro hl4;refine Br.mk (fun p2=>?_) (fun p2=>?_);rotate_left
  ·refine Ob.mk (by kernel_rfl) ?_;refine Ar.fit dC ?_;exact ⟨1+1,dC,zf [(0,some 0),(1,some 1),(2,some 2),(3,some 3)],dC⟩
  have p2:0 < (d1.length:Int):=p2;refine zb.t (zed a1 ⟨x,y⟩ gb1 hp gb2) ?_;refine zb.t (vq d1 (a1.map (List.map (sh x y)))) ?_;refine Ob.mk (by kernel_rfl) ?_;refine Br.mk (fun k=>absurd (fJ (fun q=>by rw [q] at p1;exact absurd p1 dC) (fun q=>by rw [q] at p2;exact absurd p2 dC)) k) (fun _=>?_);refine Ar.fit dC ?_;exact ⟨1+1,dC,zf [(0,some 0),(1,some 1),(2,some 2),(3,some 3)],dC⟩
 ·refine Br.y ?_;refine Br.mk (fun c1=>?_) (fun c1=>?_)
  ·have c1:(k:Int) < (i:Int):=c1;refine Dr.d ?_;refine zb.t (vq a2 d2) ?_;refine Ob.mk (by kernel_rfl) ?_;refine Br.mk (fun k=>absurd (fO (.inl c1)).2.2.1.symm k) (fun _=>?_);refine Ar.fit dC ?_;exact ⟨2+1,dC,zf [(0,some 0),(1,some 1),(2,some 2),(3,some 3)],dC⟩
  have c1:¬(k:Int) < (i:Int):=c1;refine zb.t (znf s i ht.tame) ?_;refine Br.mk (fun c2=>?_) (fun c2=>?_)
  ·have c2:zf9 s i<=(k:Int):=c2;refine Dr.d ?_;refine zb.t (vq a2 d2) ?_;refine Ob.mk (by kernel_rfl) ?_;refine Br.mk (fun k=>absurd (fO (.inr c2)).2.2.1.symm k) (fun _=>?_);refine Ar.fit dC ?_;exact ⟨2+1,dC,zf [(0,some 0),(1,some 1),(2,some 2),(3,some 3)],dC⟩
  have c2:¬zf9 s i<=(k:Int):=c2;have fJ:=(fI fun k=>k.elim c1 c2).2.2.1;refine Dr.d ?_;intro hl3;refine Br.mk (fun p1=>?_) (fun p1=>?_);rotate_left
  ·refine Ob.mk (by kernel_rfl) ?_;refine Ar.fit dC ?_;exact ⟨2+1,dC,zf [(0,some 0),(1,some 1),(2,some 2),(3,some 3)],dC⟩
  have p1:0 < (a2.length:Int):=p1;intro hl4;refine Br.mk (fun p2=>?_) (fun p2=>?_);rotate_left
  ·refine Ob.mk (by kernel_rfl) ?_;refine Ar.fit dC ?_;exact ⟨2+1,dC,zf [(0,some 0),(1,some 1),(2,some 2),(3,some 3)],dC⟩
  have p2:0 < (d2.length:Int):=p2;refine zb.t (zed a2 ⟨x,y⟩ gc1 hp gc2) ?_;refine zb.t (vq d2 (a2.map (List.map (sh x y)))) ?_;refine Ob.mk (by kernel_rfl) ?_;refine Br.mk (fun k=>absurd (fJ (fun q=>by rw [q] at p1;exact absurd p1 dC) (fun q=>by rw [q] at p2;exact absurd p2 dC)) k) (fun _=>?_);refine Ar.fit dC ?_;exact ⟨2+1,dC,zf [(0,some 0),(1,some 1),(2,some 2),(3,some 3)],dC⟩
 ·refine Br.y ?_;refine Br.mk (fun c1=>?_) (fun c1=>?_)
  ·have c1:(k:Int) < (i:Int):=c1;refine Dr.d ?_;refine zb.t (vq a3 d3) ?_;refine Ob.mk (by kernel_rfl) ?_;refine Br.mk (fun k=>absurd (fO (.inl c1)).2.2.2.symm k) (fun _=>?_);refine Ar.fit dC ?_;exact ⟨3+1,dC,zf [(0,some 0),(1,some 1),(2,some 2),(3,some 3)],dC⟩
  have c1:¬(k:Int) < (i:Int):=c1;refine zb.t (znf s i ht.tame) ?_;refine Br.mk (fun c2=>?_) (fun c2=>?_)
  ·have c2:zf9 s i<=(k:Int):=c2;refine Dr.d ?_;refine zb.t (vq a3 d3) ?_;refine Ob.mk (by kernel_rfl) ?_;refine Br.mk (fun k=>absurd (fO (.inr c2)).2.2.2.symm k) (fun _=>?_);refine Ar.fit dC ?_;exact ⟨3+1,dC,zf [(0,some 0),(1,some 1),(2,some 2),(3,some 3)],dC⟩
  have c2:¬zf9 s i<=(k:Int):=c2;have fJ:=(fI fun k=>k.elim c1 c2).2.2.2;refine Dr.d ?_;intro hl3;refine Br.mk (fun p1=>?_) (fun p1=>?_);rotate_left
  ·refine Ob.mk (by kernel_rfl) ?_;refine Ar.fit dC ?_;exact ⟨3+1,dC,zf [(0,some 0),(1,some 1),(2,some 2),(3,some 3)],dC⟩
  have p1:0 < (a3.length:Int):=p1;intro hl4;refine Br.mk (fun p2=>?_) (fun p2=>?_);rotate_left
  ·refine Ob.mk (by kernel_rfl) ?_;refine Ar.fit dC ?_;exact ⟨3+1,dC,zf [(0,some 0),(1,some 1),(2,some 2),(3,some 3)],dC⟩
  have p2:0 < (d3.length:Int):=p2;refine zb.t (zed a3 ⟨x,y⟩ gd1 hp gd2) ?_;refine zb.t (vq d3 (a3.map (List.map (sh x y)))) ?_;refine Ob.mk (by kernel_rfl) ?_;refine Br.mk (fun k=>absurd (fJ (fun q=>by rw [q] at p1;exact absurd p1 dC) (fun q=>by rw [q] at p2;exact absurd p2 dC)) k) (fun _=>?_);refine Ar.fit dC ?_;exact ⟨3+1,dC,zf [(0,some 0),(1,some 1),(2,some 2),(3,some 3)],dC⟩
 ·refine Br.mk (fun k=>absurd k dC) (fun _=>?_);refine Ar.o ?_;exact ⟨k+1,by show k+1<=_;omega,zf [(0,some 0),(1,some 1)],by dsimp only;omega⟩
end Go.Gs
namespace Go.Gs
open Go.Proofs Go.RowKit
theorem laidOut:laidOutB Tryz.prog=true:=by kernel_rfl
theorem wfi{n:Int}(h:(Lit.int .i64 n).wf=true):R64 n:=r64 h
theorem wf32{n:Int}(h:(Lit.int .u32 n).wf=true):0<=n/\n<=4294967295:=by
 simp only [Lit.wf,Bool.and_eq_true,decide_eq_true_eq] at h;exact h
def shI:Sh:=.int .i64
def shB:Sh:=.int .u8
def zlM:Sh:=.st (.cons .bool (.cons (.sl (.int .u32)) .nil))
def zex:Sh:=.st (.cons zlM (.cons zlM .nil))
def zuN:Sh:=.st (.cons zex (.cons zex (.cons zex (.cons zex (.cons zex (.cons zex .nil))))))
def zpB(n:Int):Dig:=dof n.toNat
def toBI(y:zlM.T):BI:=⟨y.1,List.map zpB y.2.1⟩
def zra(y:zex.T):BR:=⟨toBI y.1,toBI y.2.1⟩
def toAF(y:zuN.T):AF:=⟨zra y.1,zra y.2.1,zra y.2.2.1,zra y.2.2.2.1,zra y.2.2.2.2.1,zra y.2.2.2.2.2.1⟩
theorem zAR(y:zlM.T)(h:zlM.wf y):qX (zlM.enc y) (biE (toBI y)):=by
 refine .cons .refl (.cons ?_ .nil);refine LEd.sl zpB fun n hn=>?_
 have h1:=wf32 (h.2.1 n hn)
 have e:((zpB n).val:Int)=n:=by
  unfold zpB;rw [ki];omega
 show qX [.val (.int .u32 n)] [.val (.int .u32 ((zpB n).val:Int))];rw [e];exact .refl
theorem zlN(y:zex.T)(h:zex.wf y):qX (zex.enc y) (brE (zra y)):=qX.append (zAR y.1 h.1) (qX.append (zAR y.2.1 h.2.1) .nil)
theorem zAS(y:zuN.T)(h:zuN.wf y):qX (zuN.enc y) (afE (toAF y)):=
 qX.append (zlN _ h.1) (qX.append (zlN _ h.2.1) (qX.append (zlN _ h.2.2.1) (qX.append (zlN _ h.2.2.2.1) (qX.append (zlN _ h.2.2.2.2.1) (by
  have:=qX.append (zlN _ h.2.2.2.2.2.1) .nil
  rwa [List.append_nil,List.append_nil] at this)))))
section
variable {H:Type} {enc:TypeId×Value->H} {W:World} {b0:Nat} {held:Bool}
end
end Go.Gs
namespace Go.Gs
open Go.Proofs Go.RowKit
def zuO:Sh:=.st (.cons shI (.cons shI .nil))
def zys(y:zuO.T):Pt:=⟨y.1,y.2.1⟩
def shSg:Sh:=.st (.cons shI (.cons zuO (.cons zuO (.cons zuO .nil))))
def zuP(y:shSg.T):Sg:=⟨y.1,zys y.2.1,zys y.2.2.1,zys y.2.2.2.1⟩
def toI(y:shI.T):Int:=y
def zsS:Sh:=.st (.cons shI (.cons shI (.cons shI (.cons shI (.cons (.sl shI) (.cons shI .nil))))))
def zyt(y:zsS.T):Pen:=⟨y.1,y.2.1,y.2.2.1,y.2.2.2.1,List.map toI y.2.2.2.2.1,y.2.2.2.2.2.1⟩
theorem zCr(y:zsS.T):qX (zsS.enc y) (ue (zyt y)):=.cons .refl (.cons .refl (.cons .refl (.cons .refl (.cons (LEd.sl toI fun _ _=>qX.refl) (.cons .refl .nil)))))
section
variable {H:Type} {enc:TypeId×Value->H} {W:World} {b0:Nat} {held:Bool}
end
end Go.Gs
namespace Go.Gs
open Go.Proofs Go.RowKit
def zyu:Sh:=.st (.cons shB (.cons shB (.cons shB (.cons shB .nil))))
def zuQ(y:zyu.T):Pix:=⟨y.1,y.2.1,y.2.2.1,y.2.2.2.1⟩
def shSt:Sh:=.st (.cons shI (.cons zyu .nil))
def toSt(y:shSt.T):zgI:=⟨y.1,zuQ y.2.1⟩
def zyv:Sh:=.st (.cons shI (.cons shI (.cons (.sl zyu) .nil)))
def zyw(y:zyv.T):Img:=⟨y.1,y.2.1,List.map zuQ y.2.2.1⟩
theorem im_le(y:zyv.T):qX (zyv.enc y) (zjB (zyw y)):=.cons .refl (.cons .refl (.cons (LEd.sl zuQ fun _ _=>qX.refl) .nil))
def zuR:Sh:=.st (.cons shI (.cons zyu (.cons zuO (.cons zuO (.cons shI (.cons (.sl shSt) (.cons shI (.cons zyv (.cons shI (.cons zuN .nil))))))))))
def zpC(y:zuR.T):Pnt:=⟨y.1,zuQ y.2.1,zys y.2.2.1,zys y.2.2.2.1,y.2.2.2.2.1,List.map toSt y.2.2.2.2.2.1,y.2.2.2.2.2.2.1,zyw y.2.2.2.2.2.2.2.1,y.2.2.2.2.2.2.2.2.1,toAF y.2.2.2.2.2.2.2.2.2.1⟩
theorem zAT(y:zuR.T)(h:zuR.wf y):qX (zuR.enc y) (jb (zpC y)):=
 .cons .refl (.cons .refl (.cons .refl (.cons .refl (.cons .refl (.cons .refl (.cons .refl (.cons .refl (.cons .refl (.cons .refl (.cons (LEd.sl toSt fun _ _=>qX.refl) (.cons .refl
  (.cons .refl (.cons .refl (.cons (LEd.sl zuQ fun _ _=>qX.refl) (.cons .refl (by
  have:=qX.append (zAS _ h.2.2.2.2.2.2.2.2.2.1) .nil
  rwa [List.append_nil,List.append_nil] at this))))))))))))))))
theorem qX.app2{us bs cs ds xs ys:List SV}(h:qX us bs)(k:qX cs ds)(e1:xs=us++cs)(e2:ys=bs++ds):qX xs ys:=by rw [e1,e2];exact qX.append h k
def shN3:Sh:=.cons (.sl zuR) (.cons zyv (.cons shI .nil))
theorem n3_le(y:shN3.T)(h:shN3.wf y):qX (shN3.enc y) (.sl jb (List.map zpC y.1)::(zjB (zyw y.2.1)++[i64 y.2.2.1])):=
 .cons (LEd.sl zpC fun x hx=>zAT x (h.1 x hx)) (qX.app2 (im_le y.2.1) (qX.refl (us:=[i64 y.2.2.1])) rfl rfl)
def zyx:Sh:=.cons (.sl shSg) (.cons shI (.cons shB (.cons shI (.cons .bool (.cons .bool (.cons (.sl shSg) (.cons shI (.cons (.sl zuR) (.cons zsS shN3)))))))))
theorem n2_le(y:zyx.T)(h:zyx.wf y):qX (zyx.enc y) (.sl sgE (List.map zuP y.1)::i64 y.2.1::u8 y.2.2.1::i64 y.2.2.2.1::.pr (@Eq Bool y.2.2.2.2.1 true) (instDecidableEqBool y.2.2.2.2.1 true)::.pr (@Eq Bool y.2.2.2.2.2.1 true) (instDecidableEqBool y.2.2.2.2.2.1 true)::.sl sgE (List.map zuP y.2.2.2.2.2.2.1)::i64 y.2.2.2.2.2.2.2.1::
  .sl jb (List.map zpC y.2.2.2.2.2.2.2.2.1)::(ue (zyt y.2.2.2.2.2.2.2.2.2.1)++(.sl jb (List.map zpC y.2.2.2.2.2.2.2.2.2.2.1)::(zjB (zyw y.2.2.2.2.2.2.2.2.2.2.2.1)++[i64 y.2.2.2.2.2.2.2.2.2.2.2.2.1])))):=
 .cons (LEd.sl zuP fun _ _=>qX.refl) (.cons .refl (.cons .refl (.cons .refl (.cons .refl (.cons .refl (.cons (LEd.sl zuP fun _ _=>qX.refl) (.cons .refl (.cons (LEd.sl zpC fun x hx=>zAT x (h.2.2.2.2.2.2.2.2.1 x hx))
  (qX.app2 (zCr y.2.2.2.2.2.2.2.2.2.1) (n3_le y.2.2.2.2.2.2.2.2.2.2 h.2.2.2.2.2.2.2.2.2.2) rfl rfl)))))))))
def zyy:Sh:=.st (.cons shI (.cons shI (.cons shI (.cons zuN zyx))))
def toNd2(i k d:Int)(t:AF)(y:zyx.T):Nd:=⟨i,k,d,t,List.map zuP y.1,y.2.1,y.2.2.1,y.2.2.2.1,y.2.2.2.2.1,y.2.2.2.2.2.1,List.map zuP y.2.2.2.2.2.2.1,y.2.2.2.2.2.2.2.1,List.map zpC y.2.2.2.2.2.2.2.2.1,zyt y.2.2.2.2.2.2.2.2.2.1,
 List.map zpC y.2.2.2.2.2.2.2.2.2.2.1,zyw y.2.2.2.2.2.2.2.2.2.2.2.1,y.2.2.2.2.2.2.2.2.2.2.2.2.1⟩
def toNd(y:zyy.T):Nd:=toNd2 y.1 y.2.1 y.2.2.1 (toAF y.2.2.2.1) y.2.2.2.2
theorem nd_le(y:zyy.T)(h:zyy.wf y):qX (zyy.enc y) (ndE (toNd y)):=
 .cons .refl (.cons .refl (.cons .refl (qX.app2 (zAS y.2.2.2.1 h.2.2.2.1) (n2_le y.2.2.2.2 h.2.2.2.2) rfl rfl)))
def zyz:Sh:=.st (.cons shI (.cons shI (.cons zyu (.cons (.sl zyy) .nil))))
def toSc(y:zyz.T):Sc:=⟨y.1,y.2.1,zuQ y.2.2.1,List.map toNd y.2.2.2.1⟩
theorem sc_le(y:zyz.T)(h:zyz.wf y):qX (zyz.enc y) (scE (toSc y)):=
 .cons .refl (.cons .refl (.cons .refl (.cons .refl (.cons .refl (.cons .refl (.cons (LEd.sl toNd fun x hx=>nd_le x (h.2.2.2.1 x hx)) .nil))))))
section
variable {H:Type} {enc:TypeId×Value->H} {W:World} {b0:Nat} {held:Bool}
theorem open_scene{v:Value}{d:DataW H}{p:List MemPlace}(hv:Value.okWide Tryz.prog W .any b0 26 v)(h:DataW.Trod enc Tryz.prog W 0 (fun _=>true) held 26 v d p):
  ∃s:Sc,True/\∀(S Pm:Nat->Prop) (ρ:zi),(∀b,¬S b)->G S Pm ρ W (.agg (scE s)) v:=by
 obtain ⟨y,hy,g⟩:=zgF zyz (by kernel_rfl) (by kernel_rfl) hv h;exact ⟨toSc y,trivial,g _ (sc_le y hy)⟩
end
def laidL:List (String×DataW Unit):=[("errors.errorType",YtplllpkdmehklaaGreatDoor.Rows.laid_errors_errorType)]
theorem zAg:Tryz.prog.globalNamed "errors.errorType" =some 0:=by kernel_rfl
theorem zAh:(Tryz.prog.cutTypes.find? (·.1== "internal/reflectlite.rtype")).map (·.2)=some 291:=by kernel_rfl
theorem zyA:((List.range 388).filter fun t=>Tryz.prog.rowNamed t [101,114,114,111,114])=[194]:=by kernel_rfl
theorem zuS:Tryz.prog.types.size=388:=by kernel_rfl
theorem zCs:typeHandle Tryz.prog 194=.pointer (some ⟨3,194,none⟩):=by kernel_rfl
theorem handle_of_laid{W:World}(h:laidMetH Tryz.prog laidL W):∀g v,GL g v->W.cell? ⟨g,0,none⟩=some v:=by
 have h':laidMet Tryz.prog [] W/\handlesMet Tryz.prog laidL W:=h;obtain ⟨name,u,ty,e1,e2,e3,e4,e5⟩:=h'.2 _ (List.mem_singleton.2 rfl);have en:name=[101,114,114,111,114]:=(Option.some.inj e1).symm;subst en;obtain rfl:=Option.some.inj (zAh.symm.trans e2);have hm:ty∈(List.range 388).filter fun t=>Tryz.prog.rowNamed t [101,114,114,111,114]:=List.mem_filter.2 ⟨List.mem_range.2 (by rw [← zuS];exact e3),e4⟩
 rw [zyA] at hm;obtain rfl:=List.mem_singleton.1 hm;rw [zCs] at e5;have e6:W.cell? ⟨0,0,none⟩=some (.iface 291 (.agg #[.pointer (some ⟨3,194,none⟩)])):=by simpa using World.var?_cell zAg e5 0
 intro g v hg
 cases hg with
 | head=>exact e6
 | tail _ h=>cases h
noncomputable def laidWorld (os:Os):World:=
 let w0:=World.holding Tryz.prog os ⟨#[],#[],[]⟩
 { w0 with heap:=w0.heap.modify 0 fun
   | .cells _ t frozen=>.cells #[.iface 291 (.agg #[.pointer (some ⟨3,194,none⟩)])] t frozen
   | o=>o }
theorem laidWorld_met(os:Os)(args:Array Value):laidMetH Tryz.prog laidL ((laidWorld os).forCall (fun _ _=>0) ⟨#[],args,[]⟩).memory:=
 laidMetH_of_parts (laidMet_nil _ _) (by kernel_rfl)
end Go.Gs
namespace Go.Gs
open Go.Proofs Go.RowKit
def shI2:Sh:=.ar (.cons shI (.cons shI .nil))
section
variable {H:Type} {enc:TypeId×Value->H} {W:World} {b0:Nat} {held:Bool}
theorem open_int2{v:Value}{d:DataW H}{p:List MemPlace}(hv:Value.okWide Tryz.prog W .any b0 27 v)(h:DataW.Trod enc Tryz.prog W 0 (fun _=>true) held 27 v d p):
  ∃s:Int×Int,(R64 s.1/\R64 s.2)/\∀(S Pm:Nat->Prop) (ρ:zi),(∀b,¬S b)->G S Pm ρ W (.agg [i64 s.1,i64 s.2]) v:=by
 obtain ⟨y,hy,g⟩:=zgF shI2 (by kernel_rfl) (by kernel_rfl) hv h;exact ⟨(y.1,y.2.1),⟨wfi hy.1,wfi hy.2.1⟩,g _ qX.refl⟩
end
end Go.Gs
