/- Small scenes. -/
import Derived.Test.YtcjnhffjmonbeaaGreatDoorMA
import Derived.Test.YtcjnhffjmonbeaaGreatDoorMBO
import Derived.Test.YtcjnhffjmonbeaaGreatDoorMAX
import Derived.Test.YtcjnhffjmonbeaaGreatDoorMBK
import Derived.Test.YtcjnhffjmonbeaaGreatDoorChecked
import Derived.Test.YtcjnhffjmonbeaaGreatDoorMBL
import Derived.LaidLaws
import Derived.LaidHandle
import Derived.Stop.Joined
import Derived.Test.YtcjnhffjmonbeaaGreatDoorRows
set_option maxRecDepth 100000
set_option maxHeartbeats 8000000
set_option linter.all false
namespace Go.Gs
open Go.Proofs
def ltP(p:Pnt):Prop:=p.t.le 12/\p.st.length<=30/\p.im.px.length<=300
instance (p:Pnt):Decidable (ltP p):=inferInstanceAs (Decidable (_/\_))
def ltN(n:Nd):Prop:=(n.path.length<=24/\n.clip.length<=24/\n.pen.d.length<=20/\n.im.px.length<=300/\n.t.le 12/\n.fill.length<=3/\n.strk.length<=3)/\∀p∈n.fill++n.strk,ltP p
instance (n:Nd):Decidable (ltN n):=inferInstanceAs (Decidable (_/\_))
def ltS(s:Sc):Prop:=¬(8 < s.ns.length/\s.ns.length<=64)/\∀n∈s.ns.take 65,ltN n
instance (s:Sc):Decidable (ltS s):=inferInstanceAs (Decidable (_/\_))
theorem zrH{s:Sc}(h:ltS s):jq s:=fun hl n hn=>by
 have hn:ltN n:=h.2 n (by rw [List.take_of_length_le oM];exact hn);obtain ⟨⟨h1,h2,h3,h4,h5,h6,h7⟩,h8⟩:=hn
 have hp:∀p∈n.fill++n.strk,p.t.le 1000/\p.im.px.length<=9223372036854775807:=fun p hp=>by
  obtain ⟨g1,_,g3⟩:=h8 p hp;exact ⟨g1.up dC,oM⟩
 exact ⟨h5.up dC,⟨h5.up dC,fun p q=>hp p (List.mem_append_left _ q),fun p q=>hp p (List.mem_append_right _ q),oM⟩,oM,oM⟩
theorem zqg(s:Sc):ze Tryz.prog 7 [.agg (scE s)] [] (pr (ltS s)) []:=by
 refine zd tok mix Tryz.func7 rfl rfl rfl ?_;intro hl0;refine Br.mk (fun g1=>?_) (fun g1=>?_)
 all_goals first
  | (intro hl1;refine Br.mk (fun g2=>zc fun k=>k.1 ⟨oM,oM⟩) (fun g2=>?_);have h0:¬(8 < s.ns.length/\s.ns.length<=64):=fun k=>g2 (by have:=k.2;omega))
  | have h0:¬(8 < s.ns.length/\s.ns.length<=64):=fun k=>g1 (by have:=k.1;omega)
 all_goals
  refine ⟨Nat,fun i=>⟨[(3,i64 (i:Int)),(1,.loc 0 0)],[(0,.box 26 (scE s))],1,114,0⟩,fun i=>i<=(s.ns.take 65).length/\∀n∈(s.ns.take 65).take i,ltN n,fun i=>(s.ns.take 65).length - i,0,⟨Nat.zero_le _,fun n hn=>by cases hn⟩,?_,?_⟩
  ·exact zi [(0,some 0)]
  have htl:(s.ns.take 65).length=min 65 s.ns.length:=List.length_take
  rintro i ⟨h1,h2⟩
  have fin:¬((i:Int) < s.ns.length/\(i:Int)<=64)->LE (bl true) (pr (ltS s)):=fun h=>zH ⟨h0,fun n hn=>h2 n (by rw [List.take_of_length_le oM];exact hn)⟩
  intro hl2;refine Br.mk (fun g=>?_) (fun g=>fin fun k=>g k.1);have g:(i:Int) < s.ns.length:=g;refine Br.mk (fun g'=>?_) (fun g'=>fin fun k=>g' k.2);have g':(i:Int)<=64:=g';refine Ob.o ?_;intro x hx;have hx:s.ns[i]? =some x:=hx;have hx2:(s.ns.take 65)[i]? =some x:=by rw [List.getElem?_take,if_pos oM];exact hx
  have bad:¬ltN x->LE (bl false) (pr (ltS s)):=fun h=>zc fun k=>h (k.2 x (List.mem_of_getElem? hx2))
  intro a0;refine Br.mk (fun k=>bad fun q=>by have:=q.1.1;omega) (fun b1=>?_);intro a1;refine Br.mk (fun k=>bad fun q=>by have:=q.1.2.1;omega) (fun b2=>?_);intro a2;refine Br.mk (fun k=>bad fun q=>by have:=q.1.2.2.1;omega) (fun b3=>?_);intro a3;refine Br.mk (fun k=>bad fun q=>by have:=q.1.2.2.2.1;omega) (fun b4=>?_);refine zb.t (zml x.t) ?_;refine Br.mk (fun k=>bad fun q=>k q.1.2.2.2.2.1) (fun b5=>?_);intro a5;refine Br.mk (fun k=>bad fun q=>by have:=q.1.2.2.2.2.2.1;omega) (fun b6=>?_);intro a6
  refine Br.mk (fun k=>bad fun q=>by have:=q.1.2.2.2.2.2.2;omega) (fun b7=>?_)
  have ok1:x.path.length<=24/\x.clip.length<=24/\x.pen.d.length<=20/\x.im.px.length<=300/\x.t.le 12/\x.fill.length<=3/\x.strk.length<=3:=
   ⟨oM,oM,oM,oM,Decidable.not_not.1 b5,oM,oM⟩
  refine Dr.d ?_;refine ⟨Pnt,jW,[],rfl,Ob.o2 ?_⟩;refine ⟨x.fill,rfl,Ob.mk ⟨by show (((0:Nat):Int)+(x.fill.length:Int))*_<=_;dsimp only;omega,by show 0+x.fill.length<=_;omega,dC,fun _ _=>rfl⟩ ?_⟩;refine ⟨x.strk,rfl,Ob.mk ⟨by show ((([]++x.fill:List Pnt).length:Int)+(x.strk.length:Int))*_<=_;rw [List.nil_append];dsimp only;omega,by rw [List.nil_append];omega,dC,fun _ _=>rfl⟩ ?_⟩;refine Ob.mk (by kernel_rfl) ?_;rw [List.nil_append];generalize hP:x.fill++x.strk=P;have hPl:P.length<=6:=by rw [← hP,List.length_append];omega
  refine ⟨Nat,fun j=>⟨[(6,i64 (j:Int)),(5,.own 2),(4,.loc 1 0),(3,i64 (i:Int)),(1,.loc 0 0)],[(2,.arr 70 jW 40 P),(1,.box 66 (ndE x)),(0,.box 26 (scE s))],3,114,0⟩,fun j=>j<=P.length/\∀p∈P.take j,ltP p,fun j=>P.length - j,0,⟨Nat.zero_le _,fun p hp=>by cases hp⟩,?_,?_⟩
  ·exact zi [(0,some 0),(1,some 1),(2,some 4)]
  rintro j ⟨j1,j2⟩
  intro c0;refine Br.mk (fun q=>?_) (fun q=>?_)
  ·have q:(j:Int) < P.length:=q;refine Ob.o ?_;refine Ob.o ?_;intro p hp;have hp:P[j]? =some p:=hp;have hm:p∈x.fill++x.strk:=by rw [hP];exact List.mem_of_getElem? hp
   have badp:¬ltP p->LE (bl false) (pr (ltS s)):=fun h=>bad fun k=>h (k.2 p hm)
   refine zb.t (zml p.t) ?_;refine Br.mk (fun k=>badp fun w=>k w.1) (fun d1=>?_);refine Ob.o ?_;refine Ob.o ?_;intro p2 hp2;have e2:p2=p:=Option.some.inj ((show P[j]? =some p2 from hp2).symm.trans hp);rw [e2];intro c1;refine Br.mk (fun k=>badp fun w=>by have:=w.2.1;omega) (fun d2=>?_);refine Ob.o ?_;refine Ob.o ?_;intro p3 hp3;have e3:p3=p:=Option.some.inj ((show P[j]? =some p3 from hp3).symm.trans hp);rw [e3];intro c2;refine Br.mk (fun k=>badp fun w=>by have:=w.2.2;omega) (fun d3=>?_);refine Ar.o ?_
   have okp:ltP p:=⟨Decidable.not_not.1 d1,oM,oM⟩;refine ⟨j+1,⟨oM,fun w hw=>?_⟩,zi [(0,some 0),(1,some 1),(2,some 2)],by dsimp only;omega⟩;rw [List.take_add_one,hp] at hw
   rcases List.mem_append.1 hw with hw | hw
   ·exact j2 w hw
   ·rw [show w=p by simpa using hw];exact okp
  ·have q:¬(j:Int) < P.length:=q;rw [List.take_of_length_le oM] at j2;refine Ar.o ?_;refine ⟨i+1,⟨oM,fun w hw=>?_⟩,zi [(0,some 0)],by dsimp only;omega⟩;rw [List.take_add_one,hx2] at hw
   rcases List.mem_append.1 hw with hw | hw
   ·exact h2 w hw
   ·rw [show w=x by simpa using hw];exact ⟨ok1,by rw [hP];exact j2⟩
theorem l_geoTransforms(s:Sc)(i:Int):ze Tryz.prog 3 [.agg (scE s),i64 i] [] (bl true) []:=by
 refine zd tok mix Tryz.func3 rfl rfl rfl ?_;refine zb.t (zqg s) ?_;refine Br.mk (fun _=>zb.to _ zg6 rfl .refl) (fun h=>?_);have ht:=zrH (Decidable.not_not.1 h);refine zb.t (zeg s i ht) ?_;refine zb.t (zrx s i ht) ?_;refine Br.mk (fun _=>?_) (fun k=>absurd rfl k);refine zb.t (zdn (zF s i).1 (zF s i).1 ((jL s i).up dC) ((jL s i).up dC)) ?_;refine Br.mk (fun _=>?_) (fun k=>absurd ⟨rfl,rfl,rfl,rfl,rfl,rfl⟩ k);refine zb.t zg6 ?_;exact .refl
theorem l_geoClips(s:Sc)(i:Int):ze Tryz.prog 4 [.agg (scE s),i64 i] [] (bl true) []:=by
 refine zd tok mix Tryz.func4 rfl rfl rfl ?_;refine zb.t (zqg s) ?_;refine Br.mk (fun _=>zb.to _ zg6 rfl .refl) (fun h=>?_);have ht:=zrH (Decidable.not_not.1 h);refine zb.t (zuw s i ht) ?_;refine zb.t (zux s i ht) ?_;refine Br.mk (fun _=>?_) (fun k=>absurd Iff.rfl k);refine zb.t (zsQ (zjP s i) (zjP s i)) ?_;refine Br.mk (fun _=>?_) (fun k=>absurd rfl k);refine zb.t zg6 ?_;exact .refl
theorem ztH{t:AF}{x y:BR}{n:Nat}(ht:t.le n)(hx:x.len<=n)(hy:y.len<=n):qA (yY t x.v y.v)<=5*n+7:=(kK t.a x t.c y t.e ht.1 hx ht.2.2.1 hy ht.2.2.2.2.1).2
theorem ztI{t:AF}{x y:BR}{n:Nat}(ht:t.le n)(hx:x.len<=n)(hy:y.len<=n):qA (yZ t x.v y.v)<=5*n+7:=(kK t.b x t.d y t.f ht.2.1 hx ht.2.2.2.1 hy ht.2.2.2.2.2).2
theorem ztT(s:Sc)(i:Int)(p:Pt):(zdX s i p).1.1.len<=60000/\(zdX s i p).1.2.len<=60000:=by
 have hz:zBR.len<=60000:=Nat.zero_le _;unfold zdX
 split
 ·exact ⟨hz,hz⟩
 split
 ·exact ⟨hz,hz⟩
 split
 ·exact ⟨hz,hz⟩
 ·rename_i h2 _;have hp:zP p:=Decidable.not_not.1 h2;have il:=ztl (jL s i);have a1:=ztH (x:=ofQ (p.x:Rat)) (y:=ofQ (p.y:Rat)) il (by have:=uI (ptX hp);omega) (by have:=uI (ptY hp);omega);have a2:=ztI (x:=ofQ (p.x:Rat)) (y:=ofQ (p.y:Rat)) il (by have:=uI (ptX hp);omega) (by have:=uI (ptY hp);omega);rw [zN,zN] at a1 a2;exact ⟨by show (ofQ _).len<=_;rw [zo];omega,by show (ofQ _).len<=_;rw [zo];omega⟩
theorem l_geoCoordinates(s:Sc)(i:Int)(p:Pt):ze Tryz.prog 5 [.agg (scE s),i64 i,.agg (ptE p)] [] (bl true) []:=by
 refine zd tok mix Tryz.func5 rfl rfl rfl ?_;refine zb.t (zqg s) ?_;refine Br.mk (fun _=>zb.to _ zg6 rfl .refl) (fun h=>?_);have ht:=zrH (Decidable.not_not.1 h);have hl:=ztT s i p;refine zb.t (zuo s i p ht) ?_;refine zb.t (h_ntp s i p ht) ?_;refine zb.t (zup s i p ht) ?_;refine zb.t (h_ptn s i p ht) ?_;refine Br.mk (fun _=>?_) (fun k=>absurd (jd.2 rfl) k);refine Br.mk (fun _=>?_) (fun k=>absurd rfl k);refine Br.mk (fun _=>?_) (fun k=>absurd rfl k);refine zb.t (ztX (zdX s i p).1.1 (zdX s i p).1.1 oM) ?_;refine Br.mk (fun _=>?_) (fun k=>absurd rfl k)
 refine zb.t (ztX (zdX s i p).1.2 (zdX s i p).1.2 oM) ?_;refine Br.mk (fun _=>?_) (fun k=>absurd rfl k);refine zb.t zg6 ?_;exact .refl
theorem ztY{t:AF}(h:(zdp t).2=0):qH t≠0/\(zdp t).1=zh5 t:=by
 unfold zdp at h ⊢
 by_cases h1:¬t.ok
 ·rw [if_pos h1] at h;exact absurd h dC
 rw [if_neg h1] at h ⊢
 by_cases h2:qH t=0
 ·rw [if_pos h2] at h;exact absurd h dC
 rw [if_neg h2] at h ⊢
 by_cases h3:¬(zh5 t).ok
 ·rw [if_pos h3] at h;exact absurd h dC
 rw [if_neg h3];exact ⟨h2,rfl⟩
theorem ztR(t:AF):(zh5 t).a.v=t.d.v / qH t/\(zh5 t).b.v= -t.b.v / qH t/\(zh5 t).c.v= -t.c.v / qH t/\(zh5 t).d.v=t.a.v / qH t/\
  (zh5 t).e.v= -(t.d.v / qH t*t.e.v+ -t.c.v / qH t*t.f.v)/\(zh5 t).f.v= -(-t.b.v / qH t*t.e.v+t.a.v / qH t*t.f.v):=by
 have z:=zt3;refine ⟨zN _,zN _,zN _,zN _,?_,?_⟩
 ·show (ofQ _).v=_;rw [zN];show -((ofQ _).v*t.e.v+(ofQ _).v*t.f.v+zBR.v)=_;rw [zN,zN,z,Rat.add_zero]
 ·show (ofQ _).v=_;rw [zN];show -((ofQ _).v*t.e.v+(ofQ _).v*t.f.v+zBR.v)=_;rw [zN,zN,z,Rat.add_zero]
theorem there{t:AF}(h:(zdp t).2=0)(x y:Rat):yY t (yY (zdp t).1 x y) (yZ (zdp t).1 x y)=x/\yZ t (yY (zdp t).1 x y) (yZ (zdp t).1 x y)=y:=by
 obtain ⟨h0,e⟩:=ztY h;obtain ⟨ea,eb,ec,ed,ee,ef⟩:=ztR t;rw [e];unfold yY yZ;rw [ea,eb,ec,ed,ee,ef];have hw:qH t*(qH t)⁻¹=1:=Rat.mul_inv_cancel _ h0;have hd:qH t=t.a.v*t.d.v - t.b.v*t.c.v:=rfl;simp only [Rat.div_def];generalize (qH t)⁻¹=w at*;rw [hd] at hw;generalize t.a.v=a at*;generalize t.b.v=b at*;generalize t.c.v=c at*;generalize t.d.v=d at*;generalize t.e.v=e' at*;generalize t.f.v=f' at*;constructor <;> grind
theorem back{t:AF}(h:(zdp t).2=0)(x y:Rat):yY (zdp t).1 (yY t x y) (yZ t x y)=x/\yZ (zdp t).1 (yY t x y) (yZ t x y)=y:=by
 obtain ⟨h0,e⟩:=ztY h;obtain ⟨ea,eb,ec,ed,ee,ef⟩:=ztR t;rw [e];unfold yY yZ;rw [ea,eb,ec,ed,ee,ef];have hw:qH t*(qH t)⁻¹=1:=Rat.mul_inv_cancel _ h0;have hd:qH t=t.a.v*t.d.v - t.b.v*t.c.v:=rfl;simp only [Rat.div_def];generalize (qH t)⁻¹=w at*;rw [hd] at hw;generalize t.a.v=a at*;generalize t.b.v=b at*;generalize t.c.v=c at*;generalize t.d.v=d at*;generalize t.e.v=e' at*;generalize t.f.v=f' at*;constructor <;> grind
theorem zuq{s:Sc}{i:Int}{p:Pt}(h:(zdX s i p).2=0):(zF s i).2=0/\zP p/\(zdp (zF s i).1).2=0/\(zdX s i p).1.1.v=yY (zdp (zF s i).1).1 p.x p.y/\(zdX s i p).1.2.v=yZ (zdp (zF s i).1).1 p.x p.y:=by
 unfold zdX at h ⊢
 by_cases h1:(zF s i).2≠0
 ·rw [if_pos h1] at h;exact absurd h h1
 rw [if_neg h1] at h ⊢
 by_cases h2:¬zP p
 ·rw [if_pos h2] at h;exact absurd h dC
 rw [if_neg h2] at h ⊢
 by_cases h3:(zdp (zF s i).1).2≠0
 ·rw [if_pos h3] at h;exact absurd h h3
 rw [if_neg h3];exact ⟨Decidable.not_not.1 h1,Decidable.not_not.1 h2,Decidable.not_not.1 h3,zN _,zN _⟩
theorem zur{s:Sc}{i:Int}{p:Pt}(h:(zF s i).2≠0):(zdX s i p).2=(zF s i).2:=by unfold zdX;rw [if_pos h]
theorem zus{s:Sc}{i:Int}{p:Pt}(h1:(zF s i).2=0)(h2:zP p)(h3:(zdp (zF s i).1).2=0):(zdX s i p).2=0:=by
 unfold zdX;rw [if_neg (fun k=>k h1),if_neg (fun k=>k h2),if_neg (fun k=>k h3)]
theorem zuy(t:AF)(p:Pt):zP (qB t p).1:=by
 have hz:zP zp:=dC;unfold qB
 split
 ·exact hz
 split
 ·exact hz
 split
 ·rename_i h;exact h
 ·exact hz
theorem zuH(s:Sc)(i:Int)(p:Pt):zP (zp7 s i p).1:=by
 unfold zp7
 split
 ·exact (by decide:zP zp)
 ·exact zuy _ _
theorem l_geoRoundTrip(s:Sc)(i:Int)(p:Pt):ze Tryz.prog 6 [.agg (scE s),i64 i,.agg (ptE p)] [] (bl true) []:=by
 refine zd tok mix Tryz.func6 rfl rfl rfl ?_;refine zb.t (zqg s) ?_;refine Br.mk (fun _=>zb.to _ zg6 rfl .refl) (fun h=>?_);have ht:=zrH (Decidable.not_not.1 h);have hl:=ztT s i p;have hwl:=jL s i;refine zb.t (zup s i p ht) ?_;refine zb.t (zeg s i ht) ?_;refine Br.mk (fun e1=>?_) (fun e1=>?_)
 ·refine Br.mk (fun e2=>?_) (fun e2=>?_)
  ·exact zb.to _ zg6 rfl .refl
  ·refine Br.mk (fun _=>?_) (fun k=>absurd (zur e2) k);exact zb.to _ zg6 rfl .refl
 have e1:(zdX s i p).2=0:=Decidable.not_not.1 e1;obtain ⟨k1,k2,k3,k4,k5⟩:=zuq e1;have hth:=there k3 (p.x:Rat) (p.y:Rat);rw [← k4,← k5] at hth;have lx:=uI (ptX k2);have ly:=uI (ptY k2);refine Br.mk (fun e2=>absurd k1 e2) (fun _=>?_);refine zb.t (ztD (zF s i).1 (zdX s i p).1.1 (zdX s i p).1.2 (hwl.up dC) oM oM) ?_;have m1:=ztH (t:=(zF s i).1) (n:=60000) (hwl.up dC) hl.1 hl.2;have m2:=ztI (t:=(zF s i).1) (n:=60000) (hwl.up dC) hl.1 hl.2;rw [hth.1] at m1 ⊢;rw [hth.2] at m2 ⊢;have q1:=zhO (ofQ (p.x:Rat)) (ofQ (p.x:Rat)) oM oM
 have q2:=zhO (ofQ (p.y:Rat)) (ofQ (p.y:Rat)) oM oM;rw [show zdk (ofQ (p.x:Rat)).v (ofQ (p.x:Rat)).v=0 from kL.2 rfl] at q1;rw [show zdk (ofQ (p.y:Rat)).v (ofQ (p.y:Rat)).v=0 from kL.2 rfl] at q2;refine Dr.d ?_;refine zb.t (qg p.x (ptX k2)) ?_;refine zb.t q1 ?_;refine Br.mk (fun k=>absurd rfl k) (fun _=>?_);refine zb.t (qg p.y (ptY k2)) ?_;refine zb.t q2 ?_;refine Ob.mk (by kernel_rfl) ?_;refine Br.mk (fun k=>absurd rfl k) (fun _=>?_);refine zb.t (zuo s i p ht) ?_;have hq:=zuH s i p;have qx:=uI (ptX hq);have qy:=uI (ptY hq)
 have n1:=ztH (t:=(zF s i).1) (x:=ofQ (p.x:Rat)) (y:=ofQ (p.y:Rat)) (n:=100) hwl oM oM;have n2:=ztI (t:=(zF s i).1) (x:=ofQ (p.x:Rat)) (y:=ofQ (p.y:Rat)) (n:=100) hwl oM oM;rw [zN,zN] at n1 n2;refine Dr.d ?_;refine zb.t (qg p.x (ptX k2)) ?_;refine zb.t (qg p.y (ptY k2)) ?_;have ex:=ztD (zF s i).1 (ofQ (p.x:Rat)) (ofQ (p.y:Rat)) (hwl.up dC) oM oM;rw [zN,zN] at ex;refine zb.t ex ?_;refine Ob.mk (by kernel_rfl) ?_;generalize hu:yY (zF s i).1 (p.x:Rat) (p.y:Rat)=u at*;generalize hv:yZ (zF s i).1 (p.x:Rat) (p.y:Rat)=v at*
 have c1:=zhO (ofQ u) (ofQ ((zp7 s i p).1.x:Rat)) (by rw [zo];omega) oM;have c2:=zhO (ofQ v) (ofQ ((zp7 s i p).1.y:Rat)) (by rw [zo];omega) oM;rw [zN,zN] at c1 c2;refine Dr.d ?_;refine Br.mk (fun _=>Ob.mk (by kernel_rfl) (zb.to _ zg6 rfl .refl)) (fun g1=>?_);refine zb.t (qg (zp7 s i p).1.x (ptX hq)) ?_;refine zb.t c1 ?_;refine Br.mk (fun _=>Ob.mk (by kernel_rfl) (zb.to _ zg6 rfl .refl)) (fun g2=>?_);refine zb.t (qg (zp7 s i p).1.y (ptY hq)) ?_;refine zb.t c2 ?_;refine Ob.mk (by kernel_rfl) ?_;refine Br.mk (fun _=>zb.to _ zg6 rfl .refl) (fun g3=>?_)
 have eu:u=((zp7 s i p).1.x:Rat):=kL.1 (Decidable.not_not.1 g2);have ev:v=((zp7 s i p).1.y:Rat):=kL.1 (Decidable.not_not.1 g3);have hb:=back k3 (p.x:Rat) (p.y:Rat);rw [hu,hv,eu,ev] at hb;have hg:=zus k1 hq k3;obtain ⟨_,_,_,v1,v2⟩:=zuq hg;rw [hb.1] at v1;rw [hb.2] at v2;have hl2:=ztT s i (zp7 s i p).1;have d1:=zhO (zdX s i (zp7 s i p).1).1.1 (ofQ (p.x:Rat)) oM oM;have d2:=zhO (zdX s i (zp7 s i p).1).1.2 (ofQ (p.y:Rat)) oM oM;rw [v1,zN,show zdk (p.x:Rat) (p.x:Rat)=0 from kL.2 rfl] at d1
 rw [v2,zN,show zdk (p.y:Rat) (p.y:Rat)=0 from kL.2 rfl] at d2;refine zb.t (zup s i (zp7 s i p).1 ht) ?_;refine Dr.d ?_;refine Br.mk (fun _=>?_) (fun k=>absurd hg k);refine zb.t (qg p.x (ptX k2)) ?_;refine zb.t d1 ?_;refine Br.mk (fun _=>?_) (fun k=>absurd rfl k);refine zb.t (qg p.y (ptY k2)) ?_;refine zb.t d2 ?_;refine Br.mk (fun _=>?_) (fun k=>absurd rfl k);refine zb.t zg6 ?_;refine Ob.mk (by kernel_rfl) ?_;exact .refl
end Go.Gs
namespace Go.Gs
open Go.Proofs Go.RowKit
theorem laidOut:laidOutB Tryz.prog=true:=by kernel_rfl
theorem wfi{n:Int}(h:(Lit.int .i64 n).wf=true):R64 n:=r64 h
theorem wf32{n:Int}(h:(Lit.int .u32 n).wf=true):0<=n/\n<=4294967295:=by
 simp only [Lit.wf,Bool.and_eq_true,decide_eq_true_eq] at h;exact h
def shI:Sh:=.int .i64
def shB:Sh:=.int .u8
def zg7:Sh:=.st (.cons .bool (.cons (.sl (.int .u32)) .nil))
def zbO:Sh:=.st (.cons zg7 (.cons zg7 .nil))
def znA:Sh:=.st (.cons zbO (.cons zbO (.cons zbO (.cons zbO (.cons zbO (.cons zbO .nil))))))
def zj2(n:Int):Dig:=dof n.toNat
def toBI(y:zg7.T):BI:=⟨y.1,List.map zj2 y.2.1⟩
def zk9(y:zbO.T):BR:=⟨toBI y.1,toBI y.2.1⟩
def toAF(y:znA.T):AF:=⟨zk9 y.1,zk9 y.2.1,zk9 y.2.2.1,zk9 y.2.2.2.1,zk9 y.2.2.2.2.1,zk9 y.2.2.2.2.2.1⟩
theorem zsf(y:zg7.T)(h:zg7.wf y):kS (zg7.enc y) (biE (toBI y)):=by
 refine .cons .refl (.cons ?_ .nil);refine LEd.sl zj2 fun n hn=>?_
 have h1:=wf32 (h.2.1 n hn)
 have e:((zj2 n).val:Int)=n:=by
  unfold zj2;rw [zT];omega
 show kS [.val (.int .u32 n)] [.val (.int .u32 ((zj2 n).val:Int))];rw [e];exact .refl
theorem zg8(y:zbO.T)(h:zbO.wf y):kS (zbO.enc y) (brE (zk9 y)):=kS.append (zsf y.1 h.1) (kS.append (zsf y.2.1 h.2.1) .nil)
theorem zsg(y:znA.T)(h:znA.wf y):kS (znA.enc y) (afE (toAF y)):=
 kS.append (zg8 _ h.1) (kS.append (zg8 _ h.2.1) (kS.append (zg8 _ h.2.2.1) (kS.append (zg8 _ h.2.2.2.1) (kS.append (zg8 _ h.2.2.2.2.1) (by
  have:=kS.append (zg8 _ h.2.2.2.2.2.1) .nil
  rwa [List.append_nil,List.append_nil] at this)))))
section
variable {H:Type} {enc:TypeId×Value->H} {W:World} {b0:Nat} {held:Bool}
end
end Go.Gs
namespace Go.Gs
open Go.Proofs Go.RowKit
def znB:Sh:=.st (.cons shI (.cons shI .nil))
def zqh(y:znB.T):Pt:=⟨y.1,y.2.1⟩
def shSg:Sh:=.st (.cons shI (.cons znB (.cons znB (.cons znB .nil))))
def znC(y:shSg.T):Sg:=⟨y.1,zqh y.2.1,zqh y.2.2.1,zqh y.2.2.2.1⟩
def toI(y:shI.T):Int:=y
def zmn:Sh:=.st (.cons shI (.cons shI (.cons shI (.cons shI (.cons (.sl shI) (.cons shI .nil))))))
def zqi(y:zmn.T):Pen:=⟨y.1,y.2.1,y.2.2.1,y.2.2.2.1,List.map toI y.2.2.2.2.1,y.2.2.2.2.2.1⟩
theorem ztw(y:zmn.T):kS (zmn.enc y) (zf6 (zqi y)):=.cons .refl (.cons .refl (.cons .refl (.cons .refl (.cons (LEd.sl toI fun _ _=>kS.refl) (.cons .refl .nil)))))
section
variable {H:Type} {enc:TypeId×Value->H} {W:World} {b0:Nat} {held:Bool}
end
end Go.Gs
namespace Go.Gs
open Go.Proofs Go.RowKit
def zqj:Sh:=.st (.cons shB (.cons shB (.cons shB (.cons shB .nil))))
def znD(y:zqj.T):Pix:=⟨y.1,y.2.1,y.2.2.1,y.2.2.2.1⟩
def shSt:Sh:=.st (.cons shI (.cons zqj .nil))
def toSt(y:shSt.T):zfE:=⟨y.1,znD y.2.1⟩
def zqk:Sh:=.st (.cons shI (.cons shI (.cons (.sl zqj) .nil)))
def zql(y:zqk.T):Img:=⟨y.1,y.2.1,List.map znD y.2.2.1⟩
theorem im_le(y:zqk.T):kS (zqk.enc y) (zfB (zql y)):=.cons .refl (.cons .refl (.cons (LEd.sl znD fun _ _=>kS.refl) .nil))
def znE:Sh:=.st (.cons shI (.cons zqj (.cons znB (.cons znB (.cons shI (.cons (.sl shSt) (.cons shI (.cons zqk (.cons shI (.cons znA .nil))))))))))
def zj3(y:znE.T):Pnt:=⟨y.1,znD y.2.1,zqh y.2.2.1,zqh y.2.2.2.1,y.2.2.2.2.1,List.map toSt y.2.2.2.2.2.1,y.2.2.2.2.2.2.1,zql y.2.2.2.2.2.2.2.1,y.2.2.2.2.2.2.2.2.1,toAF y.2.2.2.2.2.2.2.2.2.1⟩
theorem zsh(y:znE.T)(h:znE.wf y):kS (znE.enc y) (jW (zj3 y)):=
 .cons .refl (.cons .refl (.cons .refl (.cons .refl (.cons .refl (.cons .refl (.cons .refl (.cons .refl (.cons .refl (.cons .refl (.cons (LEd.sl toSt fun _ _=>kS.refl) (.cons .refl
  (.cons .refl (.cons .refl (.cons (LEd.sl znD fun _ _=>kS.refl) (.cons .refl (by
  have:=kS.append (zsg _ h.2.2.2.2.2.2.2.2.2.1) .nil
  rwa [List.append_nil,List.append_nil] at this))))))))))))))))
theorem kS.app2{us bs cs ds xs ys:List SV}(h:kS us bs)(k:kS cs ds)(e1:xs=us++cs)(e2:ys=bs++ds):kS xs ys:=by rw [e1,e2];exact kS.append h k
def shN3:Sh:=.cons (.sl znE) (.cons zqk (.cons shI .nil))
theorem n3_le(y:shN3.T)(h:shN3.wf y):kS (shN3.enc y) (.sl jW (List.map zj3 y.1)::(zfB (zql y.2.1)++[i64 y.2.2.1])):=
 .cons (LEd.sl zj3 fun x hx=>zsh x (h.1 x hx)) (kS.app2 (im_le y.2.1) (kS.refl (us:=[i64 y.2.2.1])) rfl rfl)
def zqm:Sh:=.cons (.sl shSg) (.cons shI (.cons shB (.cons shI (.cons .bool (.cons .bool (.cons (.sl shSg) (.cons shI (.cons (.sl znE) (.cons zmn shN3)))))))))
theorem n2_le(y:zqm.T)(h:zqm.wf y):kS (zqm.enc y) (.sl sgE (List.map znC y.1)::i64 y.2.1::u8 y.2.2.1::i64 y.2.2.2.1::.pr (@Eq Bool y.2.2.2.2.1 true) (instDecidableEqBool y.2.2.2.2.1 true)::.pr (@Eq Bool y.2.2.2.2.2.1 true) (instDecidableEqBool y.2.2.2.2.2.1 true)::.sl sgE (List.map znC y.2.2.2.2.2.2.1)::i64 y.2.2.2.2.2.2.2.1::
  .sl jW (List.map zj3 y.2.2.2.2.2.2.2.2.1)::(zf6 (zqi y.2.2.2.2.2.2.2.2.2.1)++(.sl jW (List.map zj3 y.2.2.2.2.2.2.2.2.2.2.1)::(zfB (zql y.2.2.2.2.2.2.2.2.2.2.2.1)++[i64 y.2.2.2.2.2.2.2.2.2.2.2.2.1])))):=
 .cons (LEd.sl znC fun _ _=>kS.refl) (.cons .refl (.cons .refl (.cons .refl (.cons .refl (.cons .refl (.cons (LEd.sl znC fun _ _=>kS.refl) (.cons .refl (.cons (LEd.sl zj3 fun x hx=>zsh x (h.2.2.2.2.2.2.2.2.1 x hx))
  (kS.app2 (ztw y.2.2.2.2.2.2.2.2.2.1) (n3_le y.2.2.2.2.2.2.2.2.2.2 h.2.2.2.2.2.2.2.2.2.2) rfl rfl)))))))))
def zqn:Sh:=.st (.cons shI (.cons shI (.cons shI (.cons znA zqm))))
def toNd2(i k d:Int)(t:AF)(y:zqm.T):Nd:=⟨i,k,d,t,List.map znC y.1,y.2.1,y.2.2.1,y.2.2.2.1,y.2.2.2.2.1,y.2.2.2.2.2.1,List.map znC y.2.2.2.2.2.2.1,y.2.2.2.2.2.2.2.1,List.map zj3 y.2.2.2.2.2.2.2.2.1,zqi y.2.2.2.2.2.2.2.2.2.1,
 List.map zj3 y.2.2.2.2.2.2.2.2.2.2.1,zql y.2.2.2.2.2.2.2.2.2.2.2.1,y.2.2.2.2.2.2.2.2.2.2.2.2.1⟩
def toNd(y:zqn.T):Nd:=toNd2 y.1 y.2.1 y.2.2.1 (toAF y.2.2.2.1) y.2.2.2.2
theorem nd_le(y:zqn.T)(h:zqn.wf y):kS (zqn.enc y) (ndE (toNd y)):=
 .cons .refl (.cons .refl (.cons .refl (kS.app2 (zsg y.2.2.2.1 h.2.2.2.1) (n2_le y.2.2.2.2 h.2.2.2.2) rfl rfl)))
def zqo:Sh:=.st (.cons shI (.cons shI (.cons zqj (.cons (.sl zqn) .nil))))
def toSc(y:zqo.T):Sc:=⟨y.1,y.2.1,znD y.2.2.1,List.map toNd y.2.2.2.1⟩
theorem sc_le(y:zqo.T)(h:zqo.wf y):kS (zqo.enc y) (scE (toSc y)):=
 .cons .refl (.cons .refl (.cons .refl (.cons .refl (.cons .refl (.cons .refl (.cons (LEd.sl toNd fun x hx=>nd_le x (h.2.2.2.1 x hx)) .nil))))))
section
variable {H:Type} {enc:TypeId×Value->H} {W:World} {b0:Nat} {held:Bool}
theorem open_scene{v:Value}{d:DataW H}{p:List MemPlace}(hv:Value.okWide Tryz.prog W .any b0 26 v)(h:DataW.Trod enc Tryz.prog W 0 (fun _=>true) held 26 v d p):
  ∃s:Sc,True/\∀(S Pm:Nat->Prop) (ρ:zh),(∀b,¬S b)->G S Pm ρ W (.agg (scE s)) v:=by
 obtain ⟨y,hy,g⟩:=zng zqo (by kernel_rfl) (by kernel_rfl) hv h;exact ⟨toSc y,trivial,g _ (sc_le y hy)⟩
theorem open_point{v:Value}{d:DataW H}{p:List MemPlace}(hv:Value.okWide Tryz.prog W .any b0 46 v)(h:DataW.Trod enc Tryz.prog W 0 (fun _=>true) held 46 v d p):
  ∃q:Pt,(R64 q.x/\R64 q.y)/\∀(S Pm:Nat->Prop) (ρ:zh),(∀b,¬S b)->G S Pm ρ W (.agg (ptE q)) v:=by
 obtain ⟨y,hy,g⟩:=zng znB (by kernel_rfl) (by kernel_rfl) hv h;exact ⟨zqh y,⟨wfi hy.1,wfi hy.2.1⟩,g _ kS.refl⟩
end
def laidL:List (String×DataW Unit):=[("errors.errorType",YtcjnhffjmonbeaaGreatDoor.Rows.laid_errors_errorType)]
theorem zrI:Tryz.prog.globalNamed "errors.errorType" =some 0:=by kernel_rfl
theorem zrJ:(Tryz.prog.cutTypes.find? (·.1== "internal/reflectlite.rtype")).map (·.2)=some 284:=by kernel_rfl
theorem zqp:((List.range 385).filter fun t=>Tryz.prog.rowNamed t [101,114,114,111,114])=[187]:=by kernel_rfl
theorem znF:Tryz.prog.types.size=385:=by kernel_rfl
theorem ztx:typeHandle Tryz.prog 187=.pointer (some ⟨3,187,none⟩):=by kernel_rfl
theorem handle_of_laid{W:World}(h:laidMetH Tryz.prog laidL W):∀g v,GL g v->W.cell? ⟨g,0,none⟩=some v:=by
 have h':laidMet Tryz.prog [] W/\handlesMet Tryz.prog laidL W:=h;obtain ⟨name,u,ty,e1,e2,e3,e4,e5⟩:=h'.2 _ (List.mem_singleton.2 rfl);have en:name=[101,114,114,111,114]:=(Option.some.inj e1).symm;subst en;obtain rfl:=Option.some.inj (zrJ.symm.trans e2);have hm:ty∈(List.range 385).filter fun t=>Tryz.prog.rowNamed t [101,114,114,111,114]:=List.mem_filter.2 ⟨List.mem_range.2 (by rw [← znF];exact e3),e4⟩
 rw [zqp] at hm;obtain rfl:=List.mem_singleton.1 hm;rw [ztx] at e5;have e6:W.cell? ⟨0,0,none⟩=some (.iface 284 (.agg #[.pointer (some ⟨3,187,none⟩)])):=by simpa using World.var?_cell zrI e5 0
 intro g v hg
 cases hg with
 | head=>exact e6
 | tail _ h=>cases h
noncomputable def laidWorld (os:Os):World:=
 let w0:=World.holding Tryz.prog os ⟨#[],#[],[]⟩
 { w0 with heap:=w0.heap.modify 0 fun
   | .cells _ t frozen=>.cells #[.iface 284 (.agg #[.pointer (some ⟨3,187,none⟩)])] t frozen
   | o=>o }
theorem laidWorld_met(os:Os)(args:Array Value):laidMetH Tryz.prog laidL ((laidWorld os).forCall (fun _ _=>0) ⟨#[],args,[]⟩).memory:=
 laidMetH_of_parts (laidMet_nil _ _) (by kernel_rfl)
end Go.Gs
