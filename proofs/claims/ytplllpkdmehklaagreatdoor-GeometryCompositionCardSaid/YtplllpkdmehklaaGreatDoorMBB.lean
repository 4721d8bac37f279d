/- A ring turned the right way, the program's. -/
import Derived.Test.YtplllpkdmehklaaGreatDoorMA
import Derived.Test.YtplllpkdmehklaaGreatDoorMBA
set_option maxRecDepth 100000
set_option maxHeartbeats 8000000
set_option linter.all false
namespace Go.Gs
open Go.Proofs
def zos(q:List Pt)(i k:Nat):Pt:=if k < i∨q.length<=k+i then q.getD (q.length - 1 - k) zp else q.getD k zp
def zeM(q:List Pt)(i:Nat):List Pt:=(List.range q.length).map (zos q i)
theorem zot(q:List Pt)(i:Nat):(zeM q i).length=q.length:=by unfold zeM;simp
theorem zdf(q:List Pt)(i k:Nat):(zeM q i)[k]? =if k < q.length then some (zos q i k) else none:=by
 unfold zeM;rw [List.getElem?_map]
 by_cases h:k < q.length
 ·rw [if_pos h,List.getElem?_range h];rfl
 ·rw [if_neg h,List.getElem?_eq_none (by simp;omega)];rfl
theorem zou{q:List Pt}{k:Nat}(h:k < q.length):q[k]? =some (q.getD k zp):=by
 rw [List.getD_eq_getElem?_getD,List.getElem?_eq_getElem h];rfl
theorem ztC(q:List Pt):zeM q 0=q:=by
 refine List.ext_getElem? fun k=>?_
 rw [zdf]
 by_cases h:k < q.length
 ·rw [if_pos h,zou h];unfold zos;rw [if_neg oM]
 ·rw [if_neg h,List.getElem?_eq_none oM]
theorem zwk{q:List Pt}{i:Nat}(h:q.length<=2*i+1):zeM q i=q.reverse:=by
 refine List.ext_getElem? fun k=>?_
 rw [zdf]
 by_cases hk:k < q.length
 ·rw [if_pos hk,List.getElem?_reverse hk,zou oM];unfold zos
  by_cases c:k < i∨q.length<=k+i
  ·rw [if_pos c]
  ·rw [if_neg c,show q.length - 1 - k=k by omega]
 ·rw [if_neg hk,List.getElem?_eq_none (by simp;omega)]
theorem ztD{q:List Pt}{i:Nat}(h:2*i+1 < q.length):
  ((zeM q i).set i (q.getD (q.length - 1 - i) zp)).set (q.length - 1 - i) (q.getD i zp)=zeM q (i+1):=by
 refine List.ext_getElem? fun k=>?_
 rw [List.getElem?_set,List.getElem?_set,List.length_set,zot,zdf,zdf]
 by_cases hk:k < q.length
 ·rw [if_pos hk,if_pos hk]
  by_cases c1:q.length - 1 - i=k
  ·rw [if_pos c1,if_pos oM];unfold zos;rw [if_pos oM,show q.length - 1 - k=i by omega]
  ·rw [if_neg c1]
   by_cases c2:i=k
   ·rw [if_pos c2,if_pos oM];unfold zos;rw [if_pos oM,c2]
   ·rw [if_neg c2];unfold zos
    by_cases c3:k < i∨q.length<=k+i
    ·rw [if_pos c3,if_pos oM]
    ·rw [if_neg c3,if_neg oM]
 ·rw [if_neg oM,if_neg oM,if_neg hk,if_neg hk]
theorem zrV{q:List Pt}{i k:Nat}(hk:k < q.length)(h:i<=k/\k+i < q.length):(zeM q i)[k]? =some (q.getD k zp):=by
 rw [zdf,if_pos hk];unfold zos;rw [if_neg oM]
theorem p_rev(p:Pt)(q:List Pt)(hq:q.length<=4096):zd Tryz.prog 340 [.win 0 2 1 (q.length:Int)] [(0,.arr 63 ptE 2 (p::q))] (.tup []) [(0,.arr 63 ptE 2 (p::q.reverse))]:=by
 refine jM tok mix Tryz.func340 rfl rfl rfl (fun _ _=>rfl) rfl ?_;refine Ob.o ?_;refine Ar.o ?_;refine ⟨Nat,fun i=>⟨[(3,i64 ((q.length:Int) - 1 - i)),(2,i64 (i:Int)),(0,.win 0 2 1 (q.length:Int))],[(0,.arr 63 ptE 2 (p::zeM q i))],1,28,1⟩,fun i=>2*i<=q.length,fun i=>q.length - i,0,?_,?_,?_⟩
 ·exact Nat.zero_le _
 ·exact z9 [(0,some 0)] ⟨congrArg (fun n=>some (i64 n)) oM,rfl,rfl,trivial⟩ ⟨congrArg (fun r=>some (Mem.arr 63 ptE 2 (p::r))) (ztC q).symm,trivial⟩
 rintro i h1
 refine Br.mk (fun g=>?_) (fun g=>?_)
 ·have g:(i:Int) < (q.length:Int) - 1 - i:=g;have hlen:(p::zeM q i).length=q.length+1:=by rw [List.length_cons,zot]
  refine Dr.k ?_;refine Ob.o2 ?_;refine Ob.mk (by rw [hlen];omega) ?_;intro x hx
  have hx:x=q.getD (q.length - 1 - i) zp:=by
   have e:(p::zeM q i)[(1+((q.length:Int) - 1 - i)).toNat]? =some x:=hx;rw [show (1+((q.length:Int) - 1 - i)).toNat=(q.length - 1 - i)+1 by omega,List.getElem?_cons_succ,zrV oM oM] at e;exact (Option.some.inj e).symm
  refine Ob.o2 ?_;refine Ob.mk (by rw [hlen];omega) ?_;intro y hy
  have hy:y=q.getD i zp:=by
   have e:(p::zeM q i)[(1+(i:Int)).toNat]? =some y:=hy;rw [show (1+(i:Int)).toNat=i+1 by omega,List.getElem?_cons_succ,zrV oM oM] at e;exact (Option.some.inj e).symm
  refine Ob.o2 ?_;refine Ob.mk (by rw [hlen];omega) ?_;intro x' _;refine ⟨x,rfl,?_⟩;refine Ob.o2 ?_;refine Ob.mk (by rw [List.length_set,hlen];omega) ?_;intro y' _;refine ⟨y,rfl,?_⟩;(iterate 2 refine Ar.o ?_);refine ⟨i+1,oM,z9 [(0,some 0)] ⟨congrArg (fun n=>some (i64 n)) oM,rfl,rfl,trivial⟩ ⟨congrArg (fun r=>some (Mem.arr 63 ptE 2 r)) ?_,trivial⟩,by dsimp only;omega⟩;show ((p::zeM q i).set (1+(i:Int)).toNat x).set (1+((q.length:Int) - 1 - i)).toNat y=p::zeM q (i+1)
  rw [show (1+(i:Int)).toNat=i+1 by omega,show (1+((q.length:Int) - 1 - i)).toNat=(q.length - 1 - i)+1 by omega,List.set_cons_succ,List.set_cons_succ,hx,hy,ztD oM]
 ·have g:¬(i:Int) < (q.length:Int) - 1 - i:=g;refine ⟨congrArg (fun r=>some (Mem.arr 63 ptE 2 (p::r))) (zwk oM),.refl⟩
theorem zmE(q:List Pt)(hq:q.length<=4096):zd Tryz.prog 173 [.sl ptE q] [] (.own 0) [(0,.arr 63 ptE 2 q)]:=by
 refine qS tok mix Tryz.func173 rfl rfl rfl ?_
 by_cases h0:q=[]
 ·refine zsW.any (Br.mk ?_ ?_)
  ·exact ⟨none,.nil rfl,h0⟩
  ·refine ⟨Pt,ptE,[],rfl,Ob.o8 ?_⟩;refine ⟨q,rfl,Ob.o15 ?_⟩;exact ⟨some 1,.own _ rfl,rfl,fun _ _=>rfl⟩
 ·refine zsW.some (fun h=>h0 (List.eq_nil_of_length_eq_zero h)) ?_;refine ⟨Pt,ptE,[],rfl,Ob.o8 ?_⟩;refine ⟨q,rfl,Ob.o15 ?_⟩;exact ⟨some 1,.own _ rfl,rfl,fun _ _=>rfl⟩
theorem ztE(p:Pt):zes [p]=0:=by
 unfold zes
 split
 ·show vL [p] 1=0;have e0:vL [p] 0=0:=by unfold vL;rfl
  have e1:[p].getD 0 zp=p:=rfl;have e2:[p].getD ((0+1) % [p].length) zp=p:=by show [p].getD ((0+1) % 1) zp=p;rw [Nat.mod_one];rfl
  rw [zeI,e0,e1,e2];unfold zb9;unfold wdg;rw [Int.mul_comm (yE p).x];omega
 ·rfl
theorem zaM(r:List Pt)(hr:(r.length:Int)<=9223372036854771711):zd Tryz.prog 321 [.sl ptE r] [] (.sl ptE (qO r)) []:=by
 refine zc tok mix Tryz.func321 rfl rfl rfl ?_;refine zb.t (zBx r hr) ?_;refine Br.mk (fun a1=>?_) (fun a1=>?_)
 ·have e:qO r=[]:=by unfold qO;rw [if_pos a1]
  rw [e];exact zC
 have hq:=ztB a1;refine zb.fresh _ _ (zmE r hq) rfl (fun _ _=>rfl) (.inr (fun _ _=>rfl)) ?_;refine Br.mk (fun a2=>?_) (fun a2=>?_)
 ·have e:qO r=zv6 r:=by unfold qO;rw [if_neg a1,if_pos a2]
  cases r with
  | nil=>exact absurd ztA a1
  | cons p q=>
   have h0:q≠[]:=fun h=>a1 (by rw [h];exact ztE p)
   have h2:0 < q.length:=Nat.pos_of_ne_zero fun h=>h0 (List.eq_nil_of_length_eq_zero h)
   have hL:((p::q).length:Int)=(q.length:Int)+1:=by simp only [List.length_cons];omega
   have hq:q.length<=4096:=by simp only [List.length_cons] at hq;omega
   refine Sl.win (Ob.mk ⟨oM,oM,oM,oM⟩ ?_)
   have ct:zd Tryz.prog 340 [.win 0 2 1 (((p::q).length:Int) - 1)] [(0,.arr 63 ptE 2 (p::q))] (.tup []) [(0,.arr 63 ptE 2 (p::q.reverse))]:=by
    rw [show ((p::q).length:Int) - 1=(q.length:Int) by omega];exact p_rev p q hq
   refine zb.hand 0 _ _ _ rfl ct (fun _ _=>rfl) (fun _ _=>rfl) rfl rfl ?_;rw [e];exact qy rfl
 ·refine qy (show r=qO r by unfold qO;rw [if_neg a1,if_neg a2])
def P45(p:Pt):Prop:=(-35184372088832<=p.x/\p.x<=35184372088832)/\(-35184372088832<=p.y/\p.y<=35184372088832)
theorem P45.s{p:Pt}(h:P45 p):S50 p.x/\S50 p.y:=by unfold P45 at h;omega
theorem zn.p45{p:Pt}(h:zn p):P45 p:=by unfold zn at h;unfold P45;omega
theorem uu(v:Pt)(w:Int):P45 (k8 v w):=by have:=zgA v w;unfold P45;omega
theorem zov(v:Pt)(w:Int):P45 ⟨(k8 v w).y,-(k8 v w).x⟩:=by have:=zgA v w;unfold P45;dsimp only;omega
theorem zBy{p q:Pt}(h:P45 p)(k:P45 q):S50 (zH p q).x/\S50 (zH p q).y:=by
 unfold P45 at h k;show S50 (p.x - q.x)/\S50 (p.y - q.y);omega
theorem zBz{p q:Pt}(h:P45 p)(k:P45 q):S50 (zQ p q).x/\S50 (zQ p q).y:=by
 unfold P45 at h k;show S50 (p.x+q.x)/\S50 (p.y+q.y);omega
theorem zqq{w:Int}(hw:kB w):(-16384<=zX w 2/\zX w 2<=16384)/\zaY (zX w 2)=zX w 2:=by
 unfold kB at hw;have:=uC (a:=w) (b:=2) (M:=16384) oM;exact ⟨oM,zbz oM⟩
theorem zow(a b:Pt)(w:Int):zd Tryz.prog 320 [.agg (ptE a),.agg (ptE b),i64 w] []
  (.tup [.agg (ptE (if kB w/\zn a/\zn b then k8 (zH b a) w else zp)),pr (kB w/\zn a/\zn b)]) []:=by
 refine zc tok mix Tryz.func320 rfl rfl rfl ?_
 have bad:¬(kB w/\zn a/\zn b)->LE (.tup [.agg (ptE zp),bl false]) (.tup [.agg (ptE (if kB w/\zn a/\zn b then k8 (zH b a) w else zp)),pr (kB w/\zn a/\zn b)]):=fun h=>by
  rw [if_neg h];exact zU .refl (ze h)
 refine zb.t (vo w) ?_;refine Br.mk (fun a1=>bad (fun h=>a1 h.1)) (fun a1=>?_);refine zb.t (kS a) ?_;refine Br.mk (fun a2=>bad (fun h=>a2 h.2.1)) (fun a2=>?_);refine zb.t (kS b) ?_;refine Br.mk (fun a3=>bad (fun h=>a3 h.2.2)) (fun a3=>?_);have h:kB w/\zn a/\zn b:=⟨Decidable.not_not.1 a1,Decidable.not_not.1 a2,Decidable.not_not.1 a3⟩;refine zb.t (zi5 b a h.2.2.p45.s h.2.1.p45.s) ?_;refine zb.t (zi6 (zH b a) w) ?_;rw [if_pos h];exact zU .refl (zP h)
theorem zBA(a b:Pt)(w:Int):zd Tryz.prog 294 [.agg (ptE a),.agg (ptE b),i64 w] [] (.sl ptE (uN a b w)) []:=by
 refine zc tok mix Tryz.func294 rfl rfl rfl ?_
 have bad:¬(kB w/\zn a/\zn b)->LE (.val (.slice none 0 0)) (.sl ptE (uN a b w)):=fun h=>by
  unfold uN;rw [if_pos h];exact zC
 refine zb.t (zow a b w) ?_;refine Br.mk (fun h=>bad h) (fun h=>?_);have h:=Decidable.not_not.1 h;rw [if_pos h];refine Dr.d ?_;refine zb.t (zi5 a (k8 (zH b a) w) h.2.1.p45.s (uu (zH b a) w).s) ?_;refine zb.t (zi5 b (k8 (zH b a) w) h.2.2.p45.s (uu (zH b a) w).s) ?_;refine zb.t (jK b (k8 (zH b a) w) h.2.2.p45.s (uu (zH b a) w).s) ?_;refine zb.t (jK a (k8 (zH b a) w) h.2.1.p45.s (uu (zH b a) w).s) ?_;refine ⟨Pt,ptE,[zH a (k8 (zH b a) w),zH b (k8 (zH b a) w),zQ b (k8 (zH b a) w),zQ a (k8 (zH b a) w)],rfl,Ob.o0 ?_⟩
 refine zb.see 3 _ (zaM [zH a (k8 (zH b a) w),zH b (k8 (zH b a) w),zQ b (k8 (zH b a) w),zQ a (k8 (zH b a) w)] (by show ((4:Nat):Int)<=_;decide)) rfl rfl rfl ?_;refine Ob.mk (by kernel_rfl) ?_;unfold uN;rw [if_neg (fun k=>k h)];exact .refl
theorem p_cap(a b:Pt)(w:Int):zd Tryz.prog 328 [.agg (ptE a),.agg (ptE b),i64 w] [] (.sl ptE (zqm a b w)) []:=by
 refine zc tok mix Tryz.func328 rfl rfl rfl ?_
 have bad:¬(kB w/\zn a/\zn b)->LE (.val (.slice none 0 0)) (.sl ptE (zqm a b w)):=fun h=>by
  unfold zqm;rw [if_pos h];exact zC
 refine zb.t (zow a b w) ?_;refine Br.mk (fun h=>bad h) (fun h=>?_);have h:=Decidable.not_not.1 h;rw [if_pos h];have hn:=zgA (zH b a) w;refine Ar.o ?_;refine Dr.d ?_;refine zb.t (zi5 b (k8 (zH b a) w) h.2.2.p45.s (uu (zH b a) w).s) ?_;refine zb.t (zi5 b (k8 (zH b a) w) h.2.2.p45.s (uu (zH b a) w).s) ?_;refine zb.t (jK (zH b (k8 (zH b a) w)) ⟨(k8 (zH b a) w).y,-(k8 (zH b a) w).x⟩ (zBy h.2.2.p45 (uu (zH b a) w)) (zov (zH b a) w).s) ?_;refine zb.t (jK b (k8 (zH b a) w) h.2.2.p45.s (uu (zH b a) w).s) ?_
 refine zb.t (jK (zQ b (k8 (zH b a) w)) ⟨(k8 (zH b a) w).y,-(k8 (zH b a) w).x⟩ (zBz h.2.2.p45 (uu (zH b a) w)) (zov (zH b a) w).s) ?_;refine zb.t (jK b (k8 (zH b a) w) h.2.2.p45.s (uu (zH b a) w).s) ?_;refine ⟨Pt,ptE,[zH b (k8 (zH b a) w),zQ (zH b (k8 (zH b a) w)) ⟨(k8 (zH b a) w).y,-(k8 (zH b a) w).x⟩,zQ (zQ b (k8 (zH b a) w)) ⟨(k8 (zH b a) w).y,-(k8 (zH b a) w).x⟩,zQ b (k8 (zH b a) w)],rfl,Ob.o0 ?_⟩
 refine zb.see 4 _ (zaM [zH b (k8 (zH b a) w),zQ (zH b (k8 (zH b a) w)) ⟨(k8 (zH b a) w).y,-(k8 (zH b a) w).x⟩,zQ (zQ b (k8 (zH b a) w)) ⟨(k8 (zH b a) w).y,-(k8 (zH b a) w).x⟩,zQ b (k8 (zH b a) w)] (by show ((4:Nat):Int)<=_;decide)) rfl rfl rfl ?_;refine Ob.mk (by kernel_rfl) ?_;unfold zqm;rw [if_neg (fun k=>k h)];exact .refl
theorem zBB(p:Pt)(w:Int):zd Tryz.prog 318 [.agg (ptE p),i64 w] [] (.sl ptE (zi2 p w)) []:=by
 refine zc tok mix Tryz.func318 rfl rfl rfl ?_
 have bad:¬(kB w/\zn p)->LE (.val (.slice none 0 0)) (.sl ptE (zi2 p w)):=fun h=>by
  unfold zi2;rw [if_pos h];exact zC
 refine zb.t (vo w) ?_;refine Br.mk (fun a1=>bad (fun h=>a1 h.1)) (fun a1=>?_);refine zb.t (kS p) ?_;refine Br.mk (fun a2=>bad (fun h=>a2 h.2)) (fun a2=>?_);have h:kB w/\zn p:=⟨Decidable.not_not.1 a1,Decidable.not_not.1 a2⟩;have hh:=zqq h.1;have hw:=h.1;have hp:=h.2;unfold kB at hw;unfold zn at hp;refine zb.t (zI w 2 ⟨oM,oM⟩ ⟨oM,oM⟩) ?_;rw [hh.2];(iterate 8 refine Ar.o ?_)
 refine ⟨Pt,ptE,[⟨p.x - zX w 2,p.y - zX w 2⟩,⟨p.x+zX w 2,p.y - zX w 2⟩,⟨p.x+zX w 2,p.y+zX w 2⟩,⟨p.x - zX w 2,p.y+zX w 2⟩],rfl,Ob.o0 ?_⟩;refine zb.see 1 _ (zaM [⟨p.x - zX w 2,p.y - zX w 2⟩,⟨p.x+zX w 2,p.y - zX w 2⟩,⟨p.x+zX w 2,p.y+zX w 2⟩,⟨p.x - zX w 2,p.y+zX w 2⟩] (by show ((4:Nat):Int)<=_;decide)) rfl rfl rfl ?_;unfold zi2;rw [if_neg (fun k=>k h)];exact .refl
theorem j7:∀q∈zt,(-16384<=q.x/\q.x<=16384)/\(-16384<=q.y/\q.y<=16384):=by decide +kernel
def qZ(p:Pt)(w:Int)(q:Pt):Pt:=zQ p ⟨zX (q.x*w) 32768,zX (q.y*w) 32768⟩
theorem zW{x w:Int}(hx: -16384<=x/\x<=16384)(hw:kB w):(-268435456<=x*w/\x*w<=268435456)/\(-268435456<=zX (x*w) 32768/\zX (x*w) 32768<=268435456)/\zaY (zX (x*w) 32768)=zX (x*w) 32768:=by
 unfold kB at hw;have h:=jy (A:=16384) (B:=16384) (a:=x) (b:=w) oM oM;have:=uC (a:=x*w) (b:=32768) (M:=268435456) oM;exact ⟨oM,oM,zbz oM⟩
def zrW(p:Pt):Prop:=(-2097152<=p.x/\p.x<=2097152)/\(-2097152<=p.y/\p.y<=2097152)
theorem zkY{p q:Pt}(hp:zn p)(hq:zn q):zrW (zH p q):=by
 unfold zn at hp hq;show (-2097152<=p.x - q.x/\p.x - q.x<=2097152)/\(-2097152<=p.y - q.y/\p.y - q.y<=2097152);omega
theorem zwl{p q:Pt}(hp:zrW p)(hq:zrW q):(-4398046511104<=p.x*q.y/\p.x*q.y<=4398046511104)/\(-4398046511104<=p.y*q.x/\p.y*q.x<=4398046511104):=by
 have h1:=jy hp.1 hq.2;have h2:=jy hp.2 hq.1;omega
theorem zrX(w:Int):zd Tryz.prog 341 [i64 w] [] (pr (kB w)) []:=by
 refine zc tok mix Tryz.func341 rfl rfl rfl ?_;refine Br.mk (fun h=>?_) (fun h=>ze (fun k=>h k.1));exact zF ⟨fun k=>⟨h,k⟩,fun k=>k.2⟩
theorem zwm(a b:Pt)(ha:S50 a.x/\S50 a.y)(hb:S50 b.x/\S50 b.y):zd Tryz.prog 342 [.agg (ptE a),.agg (ptE b)] [] (.agg (ptE (zH b a))) []:=by
 refine zc tok mix Tryz.func342 rfl rfl rfl ?_;(iterate 2 refine Ar.o ?_);exact .refl
theorem ztF(n:Pt):zH zp n=zmx n:=by
 unfold zH zmx zp;dsimp only;rw [Int.zero_sub,Int.zero_sub]
theorem zAy(n:Pt)(h:S50 n.x/\S50 n.y):zd Tryz.prog 342 [.agg (ptE n),.agg (ptE zp)] [] (.agg (ptE (zmx n))) []:=by
 have c:=zwm n zp h ⟨dC,dC⟩
 rwa [ztF] at c
def outE(o:Pt×Pt×Bool):SV:=.tup [.agg (ptE o.1),.agg (ptE o.2.1),pr (o.2.2=true)]
theorem zeN{o:Pt×Pt×Bool}{n m:Pt}{b:Bool}(h:o=(n,m,b)):LE (.tup [.agg (ptE n),.agg (ptE m),bl b]) (outE o):=by
 subst h;exact zb4 (.cons .refl (.cons .refl (.cons zrx .nil)))
theorem zy8(a v b:Pt)(w:Int):zd Tryz.prog 325 [.agg (ptE a),.agg (ptE v),.agg (ptE b),i64 w] [] (outE (jp a v b w)) []:=by
 refine zc tok mix Tryz.func325 rfl rfl rfl ?_;have bad:¬(zn a/\zn v/\zn b/\kB w)->jp a v b w=(zp,zp,false):=fun h=>by unfold jp;rw [if_pos h]
 refine zb.t (kS a) ?_;refine Br.mk (fun a1=>zeN (bad (fun h=>a1 h.1))) (fun a1=>?_);refine zb.t (kS v) ?_;refine Br.mk (fun a2=>zeN (bad (fun h=>a2 h.2.1))) (fun a2=>?_);refine zb.t (kS b) ?_;refine Br.mk (fun a3=>zeN (bad (fun h=>a3 h.2.2.1))) (fun a3=>?_);refine zb.t (zrX w) ?_;refine Br.mk (fun a4=>zeN (bad (fun h=>a4 h.2.2.2))) (fun a4=>?_);have ha:=Decidable.not_not.1 a1;have hv:=Decidable.not_not.1 a2;have hb:=Decidable.not_not.1 a3;have hw:=Decidable.not_not.1 a4;have hx:=zkY hv ha;have hy:=zkY hb hv
 have e:jp a v b w=if wdg (zH v a) (zH b v)=0 then (zp,zp,false) else if 0 < wdg (zH v a) (zH b v) then (zmx (k8 (zH v a) w),zmx (k8 (zH b v) w),true) else (k8 (zH v a) w,k8 (zH b v) w,true):=by
  unfold jp;rw [if_neg (fun k=>k ⟨ha,hv,hb,hw⟩)]
 have hd:=zwl hx hy;refine Dr.k ?_;refine zb.t (zwm a v ha.p45.s hv.p45.s) ?_;refine zb.t (zwm v b hv.p45.s hb.p45.s) ?_;refine Dr.k ?_;refine zb.t (zi6 (zH v a) w) ?_;refine zb.t (zi6 (zH b v) w) ?_;(iterate 3 refine Ar.o ?_);refine Br.mk (fun k=>?_) (fun k=>?_)
 ·have k:wdg (zH v a) (zH b v)=0:=k;exact zeN (e.trans (if_pos k))
 have k:¬wdg (zH v a) (zH b v)=0:=k;refine Br.mk (fun k2=>?_) (fun k2=>?_)
 ·have k2:0 < wdg (zH v a) (zH b v):=k2;refine Dr.k ?_;refine zb.t (zAy (k8 (zH v a) w) (uu _ _).s) ?_;refine zb.t (zAy (k8 (zH b v) w) (uu _ _).s) ?_;exact zeN (e.trans ((if_neg k).trans (if_pos k2)))
 ·have k2:¬0 < wdg (zH v a) (zH b v):=k2;refine Dr.d ?_;refine Ob.mk (by kernel_rfl) ?_;exact zeN (e.trans ((if_neg k).trans (if_neg k2)))
theorem vq(a b:List (List Pt)):zd Tryz.prog 16 [.sl zu a,.sl zu b] [] (pr (a=b)) []:=by
 refine zc tok mix Tryz.func16 rfl rfl rfl ?_;intro hl1 hl2;refine Br.mk (fun h1=>ze fun e=>h1 (by rw [e])) (fun h1=>?_);have h1:(a.length:Int)=b.length:=Decidable.not_not.1 h1;refine ⟨Nat,fun i=>⟨[(5,i64 (i:Int)),(0,.sl zu a),(1,.sl zu b)],[],0,53,0⟩,fun i=>i<=a.length/\∀j,j < i->a[j]? =b[j]?,fun i=>a.length - i,0,?_,?_,?_⟩
 ·exact ⟨Nat.zero_le _,fun j hj=>by omega⟩
 ·exact zf []
 rintro i ⟨h2,h3⟩
 intro hl3;refine Br.mk (fun g=>?_) (fun g=>?_)
 ·have g:(i:Int) < a.length:=g;refine Dr.k ?_;refine Ob.o ?_;intro x hx;have hx:a[i]? =some x:=hx;intro hl4;refine Ob.o ?_;intro y hy;have hy:b[i]? =some y:=hy;intro hl5;refine Br.mk (fun h4=>ze fun e=>h4 ?_) (fun h4=>?_)
  ·rw [e,hy] at hx;rw [Option.some.inj hx]
  have h4:(x.length:Int)=y.length:=Decidable.not_not.1 h4;refine ⟨Nat,fun k=>⟨[(6,i64 (k:Int)),(5,i64 (i:Int)),(0,.sl zu a),(1,.sl zu b)],[],0,53,0⟩,fun k=>k<=x.length/\∀j,j < k->x[j]? =y[j]?,fun k=>x.length - k,0,?_,?_,?_⟩
  ·exact ⟨Nat.zero_le _,fun j hj=>by omega⟩
  ·exact zf []
  rintro k ⟨k1,k2⟩
  refine Ob.o ?_;intro x' hx';have e:x'=x:=Option.some.inj ((show a[i]? =some x' from hx').symm.trans hx);rw [e];intro hl6;refine Br.mk (fun g2=>?_) (fun g2=>?_)
  ·have g2:(k:Int) < x.length:=g2;refine Dr.k ?_;refine Ob.o ?_;intro x' hx';have e:x'=x:=Option.some.inj ((show a[i]? =some x' from hx').symm.trans hx);rw [e];refine Ob.o ?_;intro p hp;have hp:x[k]? =some p:=hp;refine Ob.o ?_;intro y' hy';have e:y'=y:=Option.some.inj ((show b[i]? =some y' from hy').symm.trans hy);rw [e];refine Ob.o ?_;intro q hq;have hq:y[k]? =some q:=hq;refine Br.mk (fun h5=>ze fun e=>h5 ?_) (fun h5=>?_)
   ·rw [e,hy] at hx;rw [← Option.some.inj hx,hq] at hp;exact qJ.2 (Option.some.inj hp).symm
   ·have h5:p=q:=qJ.1 (Decidable.not_not.1 h5);refine Ar.o ?_;refine ⟨k+1,⟨oM,fun j hj=>?_⟩,zf [],by dsimp only;omega⟩
    by_cases c:j=k
    ·rw [c,hp,hq,h5]
    ·exact k2 j oM
  ·have g2:¬(k:Int) < x.length:=g2
   have exy:x=y:=List.ext_getElem? fun j=>by
    by_cases hj:j < k
    ·exact k2 j hj
    ·rw [List.getElem?_eq_none oM,List.getElem?_eq_none oM]
   refine Ar.o ?_;refine ⟨i+1,⟨oM,fun j hj=>?_⟩,zf [],by dsimp only;omega⟩
   by_cases c:j=i
   ·rw [c,hx,hy,exy]
   ·exact h3 j oM
 ·have g:¬(i:Int) < a.length:=g;refine zP (List.ext_getElem? fun j=>?_)
  by_cases hj:j < i
  ·exact h3 j hj
  ·rw [List.getElem?_eq_none oM,List.getElem?_eq_none oM]
def wcell(i k j:Nat):Pt:=if j % 4 < i∨(j % 4=i/\j / 4 < k) then zt.getD j zp else zp
def v7(i k:Nat):List SV:=(List.range 16).flatMap fun j=>ptE (wcell i k j)
theorem zBC:zd Tryz.prog 337 [] [] (.agg (v7 4 0)) []:=by
 refine zc tok mix Tryz.func337 rfl rfl rfl ?_;refine ⟨Nat,fun i=>⟨[(10,i64 (i:Int)),(9,.agg [i64 16384,i64 0,i64 15137,i64 6270,i64 11585,i64 11585,i64 6270,i64 15137]),(1,.loc 1 0),(0,.loc 0 0)],[(1,.box 349 (v7 i 0)),(0,.box 349 (v7 0 0))],2,28,0⟩,fun i=>i<=4,fun i=>4 - i,0,?_,?_,?_⟩
 ·exact Nat.zero_le _
 ·exact zf [(0,some 0),(1,some 1)]
 rintro i hi
 match i,hi with
 | 0,_=>
  refine Br.y ?_;refine ⟨Nat,fun k=>⟨[(14,i64 (k:Int)),(3,.loc 2 0),(2,i64 0),(10,i64 0),(9,.agg [i64 16384,i64 0,i64 15137,i64 6270,i64 11585,i64 11585,i64 6270,i64 15137]),(1,.loc 1 0),(0,.loc 0 0)],[(2,.box 63 (ptE (zt.getD ((4*k+0) % 16) zp))),(1,.box 349 (v7 0 k)),(0,.box 349 (v7 0 0))],3,28,0⟩,fun k=>k<=4,fun k=>4 - k,0,?_,?_,?_⟩
  ·exact Nat.zero_le _
  ·exact zf [(0,some 0),(1,some 1),(2,some 2)]
  rintro k hk
  match k,hk with
  | 0,_=>
   refine Br.y ?_;refine Ar.fit dC ?_;refine Ar.fit dC ?_;refine zb.t (ud (zt.getD 0 zp)) ?_;refine Ar.fit dC ?_;exact ⟨1,dC,zf [(0,some 0),(1,some 1),(2,some 2)],dC⟩
  | 1,_=>
   refine Br.y ?_;refine Ar.fit dC ?_;refine Ar.fit dC ?_;refine zb.t (ud (zt.getD 4 zp)) ?_;refine Ar.fit dC ?_;exact ⟨2,dC,zf [(0,some 0),(1,some 1),(2,some 2)],dC⟩
  | 2,_=>
   refine Br.y ?_;refine Ar.fit dC ?_;refine Ar.fit dC ?_;refine zb.t (ud (zt.getD 8 zp)) ?_;refine Ar.fit dC ?_;exact ⟨3,dC,zf [(0,some 0),(1,some 1),(2,some 2)],dC⟩
  | 3,_=>
   refine Br.y ?_;refine Ar.fit dC ?_;refine Ar.fit dC ?_;refine zb.t (ud (zt.getD 12 zp)) ?_;refine Ar.fit dC ?_;exact ⟨4,dC,zf [(0,some 0),(1,some 1),(2,some 2)],dC⟩
  | 4,_=>
   refine Br.mk (fun h=>absurd h dC) (fun _=>?_);refine Ar.fit dC ?_;exact ⟨1,dC,zf [(0,some 0),(1,some 1)],dC⟩
  | _+5,hk=>exact absurd hk oM
 | 1,_=>
  refine Br.y ?_;refine ⟨Nat,fun k=>⟨[(14,i64 (k:Int)),(3,.loc 2 0),(2,i64 1),(10,i64 1),(9,.agg [i64 16384,i64 0,i64 15137,i64 6270,i64 11585,i64 11585,i64 6270,i64 15137]),(1,.loc 1 0),(0,.loc 0 0)],[(2,.box 63 (ptE (zt.getD ((4*k+1) % 16) zp))),(1,.box 349 (v7 1 k)),(0,.box 349 (v7 0 0))],3,28,0⟩,fun k=>k<=4,fun k=>4 - k,0,?_,?_,?_⟩
  ·exact Nat.zero_le _
  ·exact zf [(0,some 0),(1,some 1),(2,some 2)]
  rintro k hk
  match k,hk with
  | 0,_=>
   refine Br.y ?_;refine Ar.fit dC ?_;refine Ar.fit dC ?_;refine zb.t (ud (zt.getD 1 zp)) ?_;refine Ar.fit dC ?_;exact ⟨1,dC,zf [(0,some 0),(1,some 1),(2,some 2)],dC⟩
  | 1,_=>
   refine Br.y ?_;refine Ar.fit dC ?_;refine Ar.fit dC ?_;refine zb.t (ud (zt.getD 5 zp)) ?_;refine Ar.fit dC ?_;exact ⟨2,dC,zf [(0,some 0),(1,some 1),(2,some 2)],dC⟩
  | 2,_=>
   refine Br.y ?_;refine Ar.fit dC ?_;refine Ar.fit dC ?_;refine zb.t (ud (zt.getD 9 zp)) ?_;refine Ar.fit dC ?_;exact ⟨3,dC,zf [(0,some 0),(1,some 1),(2,some 2)],dC⟩
  | 3,_=>
   refine Br.y ?_;refine Ar.fit dC ?_;refine Ar.fit dC ?_;refine zb.t (ud (zt.getD 13 zp)) ?_;refine Ar.fit dC ?_;exact ⟨4,dC,zf [(0,some 0),(1,some 1),(2,some 2)],dC⟩
  | 4,_=>
   refine Br.mk (fun h=>absurd h dC) (fun _=>?_);refine Ar.fit dC ?_;exact ⟨2,dC,zf [(0,some 0),(1,some 1)],dC⟩
  | _+5,hk=>exact absurd hk oM
 | 2,_=>
  refine Br.y ?_;refine ⟨Nat,fun k=>⟨[(14,i64 (k:Int)),(3,.loc 2 0),(2,i64 2),(10,i64 2),(9,.agg [i64 16384,i64 0,i64 15137,i64 6270,i64 11585,i64 11585,i64 6270,i64 15137]),(1,.loc 1 0),(0,.loc 0 0)],[(2,.box 63 (ptE (zt.getD ((4*k+2) % 16) zp))),(1,.box 349 (v7 2 k)),(0,.box 349 (v7 0 0))],3,28,0⟩,fun k=>k<=4,fun k=>4 - k,0,?_,?_,?_⟩
  ·exact Nat.zero_le _
  ·exact zf [(0,some 0),(1,some 1),(2,some 2)]
  rintro k hk
  match k,hk with
  | 0,_=>
   refine Br.y ?_;refine Ar.fit dC ?_;refine Ar.fit dC ?_;refine zb.t (ud (zt.getD 2 zp)) ?_;refine Ar.fit dC ?_;exact ⟨1,dC,zf [(0,some 0),(1,some 1),(2,some 2)],dC⟩
  | 1,_=>
   refine Br.y ?_;refine Ar.fit dC ?_;refine Ar.fit dC ?_;refine zb.t (ud (zt.getD 6 zp)) ?_;refine Ar.fit dC ?_;exact ⟨2,dC,zf [(0,some 0),(1,some 1),(2,some 2)],dC⟩
  | 2,_=>
   refine Br.y ?_;refine Ar.fit dC ?_;refine Ar.fit dC ?_;refine zb.t (ud (zt.getD 10 zp)) ?_;refine Ar.fit dC ?_;exact ⟨3,dC,zf [(0,some 0),(1,some 1),(2,some 2)],dC⟩
  | 3,_=>
   refine Br.y ?_;refine Ar.fit dC ?_;refine Ar.fit dC ?_;refine zb.t (ud (zt.getD 14 zp)) ?_;refine Ar.fit dC ?_;exact ⟨4,dC,zf [(0,some 0),(1,some 1),(2,some 2)],dC⟩
  | 4,_=>
   refine Br.mk (fun h=>absurd h dC) (fun _=>?_);refine Ar.fit dC ?_;exact ⟨3,dC,zf [(0,some 0),(1,some 1)],dC⟩
  | _+5,hk=>exact absurd hk oM
 | 3,_=>
  refine Br.y ?_;refine ⟨Nat,fun k=>⟨[(14,i64 (k:Int)),(3,.loc 2 0),(2,i64 3),(10,i64 3),(9,.agg [i64 16384,i64 0,i64 15137,i64 6270,i64 11585,i64 11585,i64 6270,i64 15137]),(1,.loc 1 0),(0,.loc 0 0)],[(2,.box 63 (ptE (zt.getD ((4*k+3) % 16) zp))),(1,.box 349 (v7 3 k)),(0,.box 349 (v7 0 0))],3,28,0⟩,fun k=>k<=4,fun k=>4 - k,0,?_,?_,?_⟩
  ·exact Nat.zero_le _
  ·exact zf [(0,some 0),(1,some 1),(2,some 2)]
  rintro k hk
  match k,hk with
  | 0,_=>
   refine Br.y ?_;refine Ar.fit dC ?_;refine Ar.fit dC ?_;refine zb.t (ud (zt.getD 3 zp)) ?_;refine Ar.fit dC ?_;exact ⟨1,dC,zf [(0,some 0),(1,some 1),(2,some 2)],dC⟩
  | 1,_=>
   refine Br.y ?_;refine Ar.fit dC ?_;refine Ar.fit dC ?_;refine zb.t (ud (zt.getD 7 zp)) ?_;refine Ar.fit dC ?_;exact ⟨2,dC,zf [(0,some 0),(1,some 1),(2,some 2)],dC⟩
  | 2,_=>
   refine Br.y ?_;refine Ar.fit dC ?_;refine Ar.fit dC ?_;refine zb.t (ud (zt.getD 11 zp)) ?_;refine Ar.fit dC ?_;exact ⟨3,dC,zf [(0,some 0),(1,some 1),(2,some 2)],dC⟩
  | 3,_=>
   refine Br.y ?_;refine Ar.fit dC ?_;refine Ar.fit dC ?_;refine zb.t (ud (zt.getD 15 zp)) ?_;refine Ar.fit dC ?_;exact ⟨4,dC,zf [(0,some 0),(1,some 1),(2,some 2)],dC⟩
  | 4,_=>
   refine Br.mk (fun h=>absurd h dC) (fun _=>?_);refine Ar.fit dC ?_;exact ⟨4,dC,zf [(0,some 0),(1,some 1)],dC⟩
  | _+5,hk=>exact absurd hk oM
 | 4,_=>
  refine Br.mk (fun h=>absurd h dC) (fun _=>?_);exact .refl
 | _+5,hi=>exact absurd hi oM
end Go.Gs
