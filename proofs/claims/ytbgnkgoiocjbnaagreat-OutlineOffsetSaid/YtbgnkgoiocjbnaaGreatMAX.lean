/- The outer side of a joint, both texts. -/
import Derived.Test.YtbgnkgoiocjbnaaGreatMA
import Derived.Test.YtbgnkgoiocjbnaaGreatMAW
set_option maxRecDepth 100000
set_option maxHeartbeats 8000000
set_option linter.all false
namespace Go.Gs
open Go.Proofs
def zoa(p:Pt):Prop:=(-2097152<=p.x/\p.x<=2097152)/\(-2097152<=p.y/\p.y<=2097152)
theorem zif{p q:Pt}(hp:zo p)(hq:zo q):zoa (zA p q):=by
 unfold zo at hp hq;show (-2097152<=p.x - q.x/\p.x - q.x<=2097152)/\(-2097152<=p.y - q.y/\p.y - q.y<=2097152);omega
theorem zre{p q:Pt}(hp:zoa p)(hq:zoa q):(-4398046511104<=p.x*q.y/\p.x*q.y<=4398046511104)/\(-4398046511104<=p.y*q.x/\p.y*q.x<=4398046511104):=by
 have h1:=qZ hp.1 hq.2;have h2:=qZ hp.2 hq.1;omega
theorem zxc(p q:Pt)(hp:zoa p)(hq:zoa q):zd Tryz.prog 243 [.agg (ptE p),.agg (ptE q)] [] (i64 (wdg p q)) []:=by
 have h:=zre hp hq;refine zc tok mix Tryz.func243 rfl rfl rfl ?_;(iterate 3 refine Ar.o ?_);exact .refl
theorem zob(w:Int):zd Tryz.prog 284 [i64 w] [] (pr (zX w)) []:=by
 refine zc tok mix Tryz.func284 rfl rfl rfl ?_;refine Br.mk (fun h=>?_) (fun h=>ze (fun k=>h k.1));exact kZ ⟨fun k=>⟨h,k⟩,fun k=>k.2⟩
theorem zwM(w:Int):zd Tryz.prog 306 [i64 w] [] (pr (zX w)) []:=by
 refine zc tok mix Tryz.func306 rfl rfl rfl ?_;refine Br.mk (fun h=>?_) (fun h=>ze (fun k=>h k.1));exact kZ ⟨fun k=>⟨h,k⟩,fun k=>k.2⟩
theorem zrf(a b:Pt)(ha:S50 a.x/\S50 a.y)(hb:S50 b.x/\S50 b.y):zd Tryz.prog 285 [.agg (ptE a),.agg (ptE b)] [] (.agg (ptE (zA b a))) []:=by
 refine zc tok mix Tryz.func285 rfl rfl rfl ?_;(iterate 2 refine Ar.o ?_);exact .refl
theorem zpr(n:Pt):zA zp n=zjx n:=by
 unfold zA zjx zp;dsimp only;rw [Int.zero_sub,Int.zero_sub]
theorem zuk(n:Pt)(h:S50 n.x/\S50 n.y):zd Tryz.prog 285 [.agg (ptE n),.agg (ptE zp)] [] (.agg (ptE (zjx n))) []:=by
 have c:=zrf n zp h ⟨dC,dC⟩
 rwa [zpr] at c
theorem zwj{p q:Pt}(hp:zo p)(hq:zo q):zv1 p q=zA p q:=by
 unfold zv1;rw [zet hp,zet hq]
def outE(o:Pt×Pt×Bool):SV:=.tup [.agg (ptE o.1),.agg (ptE o.2.1),pr (o.2.2=true)]
theorem zc8{o:Pt×Pt×Bool}{n m:Pt}{b:Bool}(h:o=(n,m,b)):LE (.tup [.agg (ptE n),.agg (ptE m),bl b]) (outE o):=by
 subst h;exact ue (.cons .refl (.cons .refl (.cons znT .nil)))
theorem ztd(a v b:Pt)(w:Int):zd Tryz.prog 239 [.agg (ptE a),.agg (ptE v),.agg (ptE b),i64 w] [] (outE (qH a v b w)) []:=by
 refine zc tok mix Tryz.func239 rfl rfl rfl ?_;have bad:¬(zo a/\zo v/\zo b/\zX w)->qH a v b w=(zp,zp,false):=fun h=>by unfold qH;rw [if_pos h]
 refine zb.t (qc a) ?_;refine Br.mk (fun a1=>zc8 (bad (fun h=>a1 h.1))) (fun a1=>?_);refine zb.t (qc v) ?_;refine Br.mk (fun a2=>zc8 (bad (fun h=>a2 h.2.1))) (fun a2=>?_);refine zb.t (qc b) ?_;refine Br.mk (fun a3=>zc8 (bad (fun h=>a3 h.2.2.1))) (fun a3=>?_);refine zb.t (zob w) ?_;refine Br.mk (fun a4=>zc8 (bad (fun h=>a4 h.2.2.2))) (fun a4=>?_);have ha:=Decidable.not_not.1 a1;have hv:=Decidable.not_not.1 a2;have hb:=Decidable.not_not.1 a3;have hw:=Decidable.not_not.1 a4;have hx:=zif hv ha;have hy:=zif hb hv
 have e:qH a v b w=if wdg (zA v a) (zA b v)=0 then (zp,zp,false) else if 0 < wdg (zA v a) (zA b v) then (zjx (kM (zA v a) w),zjx (kM (zA b v) w),true) else (kM (zA v a) w,kM (zA b v) w,true):=by
  unfold qH;rw [if_neg (fun k=>k ⟨ha,hv,hb,hw⟩)]
 have hd:=zre hx hy;refine Dr.k ?_;refine zb.t (zrf a v ha.p45.s hv.p45.s) ?_;refine zb.t (zrf v b hv.p45.s hb.p45.s) ?_;refine Dr.k ?_;refine zb.t (zgD (zA v a) w) ?_;refine zb.t (zgD (zA b v) w) ?_;(iterate 3 refine Ar.o ?_);refine Br.mk (fun k=>?_) (fun k=>?_)
 ·have k:wdg (zA v a) (zA b v)=0:=k;exact zc8 (e.trans (if_pos k))
 have k:¬wdg (zA v a) (zA b v)=0:=k;refine Br.mk (fun k2=>?_) (fun k2=>?_)
 ·have k2:0 < wdg (zA v a) (zA b v):=k2;refine Dr.k ?_;refine zb.t (zuk (kM (zA v a) w) (yA _ _).s) ?_;refine zb.t (zuk (kM (zA b v) w) (yA _ _).s) ?_;exact zc8 (e.trans ((if_neg k).trans (if_pos k2)))
 ·have k2:¬0 < wdg (zA v a) (zA b v):=k2;refine Dr.d ?_;refine Ob.mk (by kernel_rfl) ?_;exact zc8 (e.trans ((if_neg k).trans (if_neg k2)))
theorem zxr(a v b:Pt)(w:Int):zd Tryz.prog 292 [.agg (ptE a),.agg (ptE v),.agg (ptE b),i64 w] [] (outE (qH a v b w)) []:=by
 refine zc tok mix Tryz.func292 rfl rfl rfl ?_;have bad:¬(zo a/\zo v/\zo b/\zX w)->qH a v b w=(zp,zp,false):=fun h=>by unfold qH;rw [if_pos h]
 refine zb.t (yG a) ?_;refine Br.mk (fun a1=>zc8 (bad (fun h=>a1 h.1))) (fun a1=>?_);refine zb.t (yG v) ?_;refine Br.mk (fun a2=>zc8 (bad (fun h=>a2 h.2.1))) (fun a2=>?_);refine zb.t (yG b) ?_;refine Br.mk (fun a3=>zc8 (bad (fun h=>a3 h.2.2.1))) (fun a3=>?_);refine zb.t (zwM w) ?_;refine Br.mk (fun a4=>zc8 (bad (fun h=>a4 h.2.2.2))) (fun a4=>?_);have ha:=Decidable.not_not.1 a1;have hv:=Decidable.not_not.1 a2;have hb:=Decidable.not_not.1 a3;have hw:=Decidable.not_not.1 a4;have hx:=zif hv ha;have hy:=zif hb hv
 have e:qH a v b w=if wdg (zA v a) (zA b v)=0 then (zp,zp,false) else if 0 < wdg (zA v a) (zA b v) then (zjx (kM (zA v a) w),zjx (kM (zA b v) w),true) else (kM (zA v a) w,kM (zA b v) w,true):=by
  unfold qH;rw [if_neg (fun k=>k ⟨ha,hv,hb,hw⟩)]
 have c1:=zwI v a;rw [zwj hv ha] at c1;have c2:=zwI b v;rw [zwj hb hv] at c2;have n1:=zew (zA v a) w;have n2:=zew (zA b v) w;refine Dr.k ?_;refine zb.t c1 ?_;refine zb.t c2 ?_;refine Dr.k ?_;refine zb.t (zv9 (zA v a) w) ?_;refine zb.t (zv9 (zA b v) w) ?_;refine zb.t (zxc (zA v a) (zA b v) hx hy) ?_;refine Br.mk (fun k=>?_) (fun k=>?_)
 ·exact zc8 (e.trans (if_pos k))
 refine Br.mk (fun k2=>?_) (fun k2=>?_)
 ·refine Dr.d ?_;(iterate 4 refine Ar.o ?_);refine Ob.mk (by kernel_rfl) ?_;refine Dr.d ?_;refine Ob.mk (by kernel_rfl) ?_;exact zc8 (n:=zjx (kM (zA v a) w)) (m:=zjx (kM (zA b v) w)) (e.trans ((if_neg k).trans (if_pos k2)))
 ·refine Dr.d ?_;refine Ob.mk (by kernel_rfl) ?_;exact zc8 (e.trans ((if_neg k).trans (if_neg k2)))
theorem zc9(a b:List (List Pt)):zd Tryz.prog 15 [.sl zw a,.sl zw b] [] (pr (a=b)) []:=by
 refine zc tok mix Tryz.func15 rfl rfl rfl ?_;intro hl1 hl2;refine Br.mk (fun h1=>ze fun e=>h1 (by rw [e])) (fun h1=>?_);have h1:(a.length:Int)=b.length:=Decidable.not_not.1 h1;refine ⟨Nat,fun i=>⟨[(5,i64 (i:Int)),(0,.sl zw a),(1,.sl zw b)],[],0,53,0⟩,fun i=>i<=a.length/\∀j,j < i->a[j]? =b[j]?,fun i=>a.length - i,0,?_,?_,?_⟩
 ·exact ⟨Nat.zero_le _,fun j hj=>by omega⟩
 ·exact zh []
 rintro i ⟨h2,h3⟩
 intro hl3;refine Br.mk (fun g=>?_) (fun g=>?_)
 ·have g:(i:Int) < a.length:=g;refine Dr.k ?_;refine Ob.o ?_;intro x hx;have hx:a[i]? =some x:=hx;intro hl4;refine Ob.o ?_;intro y hy;have hy:b[i]? =some y:=hy;intro hl5;refine Br.mk (fun h4=>ze fun e=>h4 ?_) (fun h4=>?_)
  ·rw [e,hy] at hx;rw [Option.some.inj hx]
  have h4:(x.length:Int)=y.length:=Decidable.not_not.1 h4;refine ⟨Nat,fun k=>⟨[(6,i64 (k:Int)),(5,i64 (i:Int)),(0,.sl zw a),(1,.sl zw b)],[],0,53,0⟩,fun k=>k<=x.length/\∀j,j < k->x[j]? =y[j]?,fun k=>x.length - k,0,?_,?_,?_⟩
  ·exact ⟨Nat.zero_le _,fun j hj=>by omega⟩
  ·exact zh []
  rintro k ⟨k1,k2⟩
  refine Ob.o ?_;intro x' hx';have e:x'=x:=Option.some.inj ((show a[i]? =some x' from hx').symm.trans hx);rw [e];intro hl6;refine Br.mk (fun g2=>?_) (fun g2=>?_)
  ·have g2:(k:Int) < x.length:=g2;refine Dr.k ?_;refine Ob.o ?_;intro x' hx';have e:x'=x:=Option.some.inj ((show a[i]? =some x' from hx').symm.trans hx);rw [e];refine Ob.o ?_;intro p hp;have hp:x[k]? =some p:=hp;refine Ob.o ?_;intro y' hy';have e:y'=y:=Option.some.inj ((show b[i]? =some y' from hy').symm.trans hy);rw [e];refine Ob.o ?_;intro q hq;have hq:y[k]? =some q:=hq;refine Br.mk (fun h5=>ze fun e=>h5 ?_) (fun h5=>?_)
   ·rw [e,hy] at hx;rw [← Option.some.inj hx,hq] at hp;exact qx.2 (Option.some.inj hp).symm
   ·have h5:p=q:=qx.1 (Decidable.not_not.1 h5);refine Ar.o ?_;refine ⟨k+1,⟨oM,fun j hj=>?_⟩,zh [],by dsimp only;omega⟩
    by_cases c:j=k
    ·rw [c,hp,hq,h5]
    ·exact k2 j oM
  ·have g2:¬(k:Int) < x.length:=g2
   have exy:x=y:=List.ext_getElem? fun j=>by
    by_cases hj:j < k
    ·exact k2 j hj
    ·rw [List.getElem?_eq_none oM,List.getElem?_eq_none oM]
   refine Ar.o ?_;refine ⟨i+1,⟨oM,fun j hj=>?_⟩,zh [],by dsimp only;omega⟩
   by_cases c:j=i
   ·rw [c,hx,hy,exy]
   ·exact h3 j oM
 ·have g:¬(i:Int) < a.length:=g;refine kC (List.ext_getElem? fun j=>?_)
  by_cases hj:j < i
  ·exact h3 j hj
  ·rw [List.getElem?_eq_none oM,List.getElem?_eq_none oM]
def wcell(i k j:Nat):Pt:=if j % 4 < i∨(j % 4=i/\j / 4 < k) then zr.getD j zp else zp
def uR(i k:Nat):List SV:=(List.range 16).flatMap fun j=>ptE (wcell i k j)
theorem zu4:zd Tryz.prog 282 [] [] (.agg (uR 4 0)) []:=by
 refine zc tok mix Tryz.func282 rfl rfl rfl ?_;refine ⟨Nat,fun i=>⟨[(10,i64 (i:Int)),(9,.agg [i64 16384,i64 0,i64 15137,i64 6270,i64 11585,i64 11585,i64 6270,i64 15137]),(1,.loc 1 0),(0,.loc 0 0)],[(1,.box 253 (uR i 0)),(0,.box 253 (uR 0 0))],2,28,0⟩,fun i=>i<=4,fun i=>4 - i,0,?_,?_,?_⟩
 ·exact Nat.zero_le _
 ·exact zh [(0,some 0),(1,some 1)]
 rintro i hi
 match i,hi with
 | 0,_=>
  refine Br.y ?_;refine ⟨Nat,fun k=>⟨[(14,i64 (k:Int)),(3,.loc 2 0),(2,i64 0),(10,i64 0),(9,.agg [i64 16384,i64 0,i64 15137,i64 6270,i64 11585,i64 11585,i64 6270,i64 15137]),(1,.loc 1 0),(0,.loc 0 0)],[(2,.box 52 (ptE (zr.getD ((4*k+0) % 16) zp))),(1,.box 253 (uR 0 k)),(0,.box 253 (uR 0 0))],3,28,0⟩,fun k=>k<=4,fun k=>4 - k,0,?_,?_,?_⟩
  ·exact Nat.zero_le _
  ·exact zh [(0,some 0),(1,some 1),(2,some 2)]
  rintro k hk
  match k,hk with
  | 0,_=>
   refine Br.y ?_;refine Ar.fit dC ?_;refine Ar.fit dC ?_;refine zb.t (yq (zr.getD 0 zp)) ?_;refine Ar.fit dC ?_;exact ⟨1,dC,zh [(0,some 0),(1,some 1),(2,some 2)],dC⟩
  | 1,_=>
   refine Br.y ?_;refine Ar.fit dC ?_;refine Ar.fit dC ?_;refine zb.t (yq (zr.getD 4 zp)) ?_;refine Ar.fit dC ?_;exact ⟨2,dC,zh [(0,some 0),(1,some 1),(2,some 2)],dC⟩
  | 2,_=>
   refine Br.y ?_;refine Ar.fit dC ?_;refine Ar.fit dC ?_;refine zb.t (yq (zr.getD 8 zp)) ?_;refine Ar.fit dC ?_;exact ⟨3,dC,zh [(0,some 0),(1,some 1),(2,some 2)],dC⟩
  | 3,_=>
   refine Br.y ?_;refine Ar.fit dC ?_;refine Ar.fit dC ?_;refine zb.t (yq (zr.getD 12 zp)) ?_;refine Ar.fit dC ?_;exact ⟨4,dC,zh [(0,some 0),(1,some 1),(2,some 2)],dC⟩
  | 4,_=>
   refine Br.mk (fun h=>absurd h dC) (fun _=>?_);refine Ar.fit dC ?_;exact ⟨1,dC,zh [(0,some 0),(1,some 1)],dC⟩
  | _+5,hk=>exact absurd hk oM
 | 1,_=>
  refine Br.y ?_;refine ⟨Nat,fun k=>⟨[(14,i64 (k:Int)),(3,.loc 2 0),(2,i64 1),(10,i64 1),(9,.agg [i64 16384,i64 0,i64 15137,i64 6270,i64 11585,i64 11585,i64 6270,i64 15137]),(1,.loc 1 0),(0,.loc 0 0)],[(2,.box 52 (ptE (zr.getD ((4*k+1) % 16) zp))),(1,.box 253 (uR 1 k)),(0,.box 253 (uR 0 0))],3,28,0⟩,fun k=>k<=4,fun k=>4 - k,0,?_,?_,?_⟩
  ·exact Nat.zero_le _
  ·exact zh [(0,some 0),(1,some 1),(2,some 2)]
  rintro k hk
  match k,hk with
  | 0,_=>
   refine Br.y ?_;refine Ar.fit dC ?_;refine Ar.fit dC ?_;refine zb.t (yq (zr.getD 1 zp)) ?_;refine Ar.fit dC ?_;exact ⟨1,dC,zh [(0,some 0),(1,some 1),(2,some 2)],dC⟩
  | 1,_=>
   refine Br.y ?_;refine Ar.fit dC ?_;refine Ar.fit dC ?_;refine zb.t (yq (zr.getD 5 zp)) ?_;refine Ar.fit dC ?_;exact ⟨2,dC,zh [(0,some 0),(1,some 1),(2,some 2)],dC⟩
  | 2,_=>
   refine Br.y ?_;refine Ar.fit dC ?_;refine Ar.fit dC ?_;refine zb.t (yq (zr.getD 9 zp)) ?_;refine Ar.fit dC ?_;exact ⟨3,dC,zh [(0,some 0),(1,some 1),(2,some 2)],dC⟩
  | 3,_=>
   refine Br.y ?_;refine Ar.fit dC ?_;refine Ar.fit dC ?_;refine zb.t (yq (zr.getD 13 zp)) ?_;refine Ar.fit dC ?_;exact ⟨4,dC,zh [(0,some 0),(1,some 1),(2,some 2)],dC⟩
  | 4,_=>
   refine Br.mk (fun h=>absurd h dC) (fun _=>?_);refine Ar.fit dC ?_;exact ⟨2,dC,zh [(0,some 0),(1,some 1)],dC⟩
  | _+5,hk=>exact absurd hk oM
 | 2,_=>
  refine Br.y ?_;refine ⟨Nat,fun k=>⟨[(14,i64 (k:Int)),(3,.loc 2 0),(2,i64 2),(10,i64 2),(9,.agg [i64 16384,i64 0,i64 15137,i64 6270,i64 11585,i64 11585,i64 6270,i64 15137]),(1,.loc 1 0),(0,.loc 0 0)],[(2,.box 52 (ptE (zr.getD ((4*k+2) % 16) zp))),(1,.box 253 (uR 2 k)),(0,.box 253 (uR 0 0))],3,28,0⟩,fun k=>k<=4,fun k=>4 - k,0,?_,?_,?_⟩
  ·exact Nat.zero_le _
  ·exact zh [(0,some 0),(1,some 1),(2,some 2)]
  rintro k hk
  match k,hk with
  | 0,_=>
   refine Br.y ?_;refine Ar.fit dC ?_;refine Ar.fit dC ?_;refine zb.t (yq (zr.getD 2 zp)) ?_;refine Ar.fit dC ?_;exact ⟨1,dC,zh [(0,some 0),(1,some 1),(2,some 2)],dC⟩
  | 1,_=>
   refine Br.y ?_;refine Ar.fit dC ?_;refine Ar.fit dC ?_;refine zb.t (yq (zr.getD 6 zp)) ?_;refine Ar.fit dC ?_;exact ⟨2,dC,zh [(0,some 0),(1,some 1),(2,some 2)],dC⟩
  | 2,_=>
   refine Br.y ?_;refine Ar.fit dC ?_;refine Ar.fit dC ?_;refine zb.t (yq (zr.getD 10 zp)) ?_;refine Ar.fit dC ?_;exact ⟨3,dC,zh [(0,some 0),(1,some 1),(2,some 2)],dC⟩
  | 3,_=>
   refine Br.y ?_;refine Ar.fit dC ?_;refine Ar.fit dC ?_;refine zb.t (yq (zr.getD 14 zp)) ?_;refine Ar.fit dC ?_;exact ⟨4,dC,zh [(0,some 0),(1,some 1),(2,some 2)],dC⟩
  | 4,_=>
   refine Br.mk (fun h=>absurd h dC) (fun _=>?_);refine Ar.fit dC ?_;exact ⟨3,dC,zh [(0,some 0),(1,some 1)],dC⟩
  | _+5,hk=>exact absurd hk oM
 | 3,_=>
  refine Br.y ?_;refine ⟨Nat,fun k=>⟨[(14,i64 (k:Int)),(3,.loc 2 0),(2,i64 3),(10,i64 3),(9,.agg [i64 16384,i64 0,i64 15137,i64 6270,i64 11585,i64 11585,i64 6270,i64 15137]),(1,.loc 1 0),(0,.loc 0 0)],[(2,.box 52 (ptE (zr.getD ((4*k+3) % 16) zp))),(1,.box 253 (uR 3 k)),(0,.box 253 (uR 0 0))],3,28,0⟩,fun k=>k<=4,fun k=>4 - k,0,?_,?_,?_⟩
  ·exact Nat.zero_le _
  ·exact zh [(0,some 0),(1,some 1),(2,some 2)]
  rintro k hk
  match k,hk with
  | 0,_=>
   refine Br.y ?_;refine Ar.fit dC ?_;refine Ar.fit dC ?_;refine zb.t (yq (zr.getD 3 zp)) ?_;refine Ar.fit dC ?_;exact ⟨1,dC,zh [(0,some 0),(1,some 1),(2,some 2)],dC⟩
  | 1,_=>
   refine Br.y ?_;refine Ar.fit dC ?_;refine Ar.fit dC ?_;refine zb.t (yq (zr.getD 7 zp)) ?_;refine Ar.fit dC ?_;exact ⟨2,dC,zh [(0,some 0),(1,some 1),(2,some 2)],dC⟩
  | 2,_=>
   refine Br.y ?_;refine Ar.fit dC ?_;refine Ar.fit dC ?_;refine zb.t (yq (zr.getD 11 zp)) ?_;refine Ar.fit dC ?_;exact ⟨3,dC,zh [(0,some 0),(1,some 1),(2,some 2)],dC⟩
  | 3,_=>
   refine Br.y ?_;refine Ar.fit dC ?_;refine Ar.fit dC ?_;refine zb.t (yq (zr.getD 15 zp)) ?_;refine Ar.fit dC ?_;exact ⟨4,dC,zh [(0,some 0),(1,some 1),(2,some 2)],dC⟩
  | 4,_=>
   refine Br.mk (fun h=>absurd h dC) (fun _=>?_);refine Ar.fit dC ?_;exact ⟨4,dC,zh [(0,some 0),(1,some 1)],dC⟩
  | _+5,hk=>exact absurd hk oM
 | 4,_=>
  refine Br.mk (fun h=>absurd h dC) (fun _=>?_);exact .refl
 | _+5,hi=>exact absurd hi oM
theorem zmT(p:Pt)(w:Int):zd Tryz.prog 234 [.agg (ptE p),i64 w] [] (.sl ptE (vZ p w)) []:=by
 refine zc tok mix Tryz.func234 rfl rfl rfl ?_
 have bad:¬(zX w/\zo p)->LE (.val (.slice none 0 0)) (.sl ptE (vZ p w)):=fun h=>by
  unfold vZ;rw [if_pos h];exact ku
 refine zb.t (uh w) ?_;refine Br.mk (fun a1=>bad (fun h=>a1 h.1)) (fun a1=>?_);refine zb.t (qc p) ?_;refine Br.mk (fun a2=>bad (fun h=>a2 h.2)) (fun a2=>?_);have h:zX w/\zo p:=⟨Decidable.not_not.1 a1,Decidable.not_not.1 a2⟩;refine zb.t zu4 ?_;refine ⟨Nat,fun i=>⟨[(17,i64 (i:Int)),(16,.agg (uR 4 0)),(5,.own 1),(2,.loc 0 0),(1,i64 w)],[(1,.arr 52 ptE 2 ((zr.take i).map (qI p w))),(0,.box 52 (ptE p))],2,39,0⟩,fun i=>i<=16,fun i=>16 - i,0,?_,?_,?_⟩
 ·exact Nat.zero_le _
 ·exact zh [(0,some 0),(1,none)]
 rintro i hi
 match i,hi with
 | 0,_=>
  have hb:=jy (zr.getD 0 zp) dC;have t1:=zR hb.1 h.1;have t2:=zR hb.2 h.1;refine Br.y ?_;refine Dr.d ?_;refine Ar.fit (show -9223372036854775808<=(zr.getD 0 zp).x*w/\(zr.getD 0 zp).x*w<=9223372036854775807 by omega) ?_;refine zb.t (zC ((zr.getD 0 zp).x*w) 32768 ⟨oM,oM⟩ ⟨dC,dC⟩) ?_;rw [t1.2.2];refine Ar.fit (show -9223372036854775808<=(zr.getD 0 zp).y*w/\(zr.getD 0 zp).y*w<=9223372036854775807 by omega) ?_;refine zb.t (zC ((zr.getD 0 zp).y*w) 32768 ⟨oM,oM⟩ ⟨dC,dC⟩) ?_;rw [t2.2.2]
  refine zb.t (jk p ⟨zQ ((zr.getD 0 zp).x*w) 32768,zQ ((zr.getD 0 zp).y*w) 32768⟩ h.2.p45.s ⟨by dsimp only;omega,by dsimp only;omega⟩) ?_;refine ⟨Pt,ptE,[qI p w (zr.getD 0 zp)],rfl,Ob.o0 ?_⟩;refine ⟨[qI p w (zr.getD 0 zp)],rfl,Ob.mk ⟨by show ((0:Nat)+((1:Nat):Int))*16<=_;decide,by show 0+1<=_;decide,dC,fun _ _=>rfl⟩ ?_⟩;refine Ob.mk (by kernel_rfl) ?_;refine Ar.fit dC ?_;exact ⟨1,dC,zh [(0,some 0),(1,some 4)],dC⟩
 | 1,_=>
  have hb:=jy (zr.getD 1 zp) dC;have t1:=zR hb.1 h.1;have t2:=zR hb.2 h.1;refine Br.y ?_;refine Dr.d ?_;refine Ar.fit (show -9223372036854775808<=(zr.getD 1 zp).x*w/\(zr.getD 1 zp).x*w<=9223372036854775807 by omega) ?_;refine zb.t (zC ((zr.getD 1 zp).x*w) 32768 ⟨oM,oM⟩ ⟨dC,dC⟩) ?_;rw [t1.2.2];refine Ar.fit (show -9223372036854775808<=(zr.getD 1 zp).y*w/\(zr.getD 1 zp).y*w<=9223372036854775807 by omega) ?_;refine zb.t (zC ((zr.getD 1 zp).y*w) 32768 ⟨oM,oM⟩ ⟨dC,dC⟩) ?_;rw [t2.2.2]
  refine zb.t (jk p ⟨zQ ((zr.getD 1 zp).x*w) 32768,zQ ((zr.getD 1 zp).y*w) 32768⟩ h.2.p45.s ⟨by dsimp only;omega,by dsimp only;omega⟩) ?_;refine ⟨Pt,ptE,[qI p w (zr.getD 1 zp)],rfl,Ob.o0 ?_⟩;refine ⟨[qI p w (zr.getD 1 zp)],rfl,Ob.mk ⟨by show ((1:Nat)+((1:Nat):Int))*16<=_;decide,by show 1+1<=_;decide,dC,fun _ _=>rfl⟩ ?_⟩;refine Ob.mk (by kernel_rfl) ?_;refine Ar.fit dC ?_;exact ⟨2,dC,zh [(0,some 0),(1,some 4)],dC⟩
 | 2,_=>
  have hb:=jy (zr.getD 2 zp) dC;have t1:=zR hb.1 h.1;have t2:=zR hb.2 h.1;refine Br.y ?_;refine Dr.d ?_;refine Ar.fit (show -9223372036854775808<=(zr.getD 2 zp).x*w/\(zr.getD 2 zp).x*w<=9223372036854775807 by omega) ?_;refine zb.t (zC ((zr.getD 2 zp).x*w) 32768 ⟨oM,oM⟩ ⟨dC,dC⟩) ?_;rw [t1.2.2];refine Ar.fit (show -9223372036854775808<=(zr.getD 2 zp).y*w/\(zr.getD 2 zp).y*w<=9223372036854775807 by omega) ?_;refine zb.t (zC ((zr.getD 2 zp).y*w) 32768 ⟨oM,oM⟩ ⟨dC,dC⟩) ?_;rw [t2.2.2]
  refine zb.t (jk p ⟨zQ ((zr.getD 2 zp).x*w) 32768,zQ ((zr.getD 2 zp).y*w) 32768⟩ h.2.p45.s ⟨by dsimp only;omega,by dsimp only;omega⟩) ?_;refine ⟨Pt,ptE,[qI p w (zr.getD 2 zp)],rfl,Ob.o0 ?_⟩;refine ⟨[qI p w (zr.getD 2 zp)],rfl,Ob.o8 ?_⟩;refine Ob.mk (by kernel_rfl) ?_;refine Ar.fit dC ?_;exact ⟨3,dC,zh [(0,some 0),(1,some 4)],dC⟩
 | 3,_=>
  have hb:=jy (zr.getD 3 zp) dC;have t1:=zR hb.1 h.1;have t2:=zR hb.2 h.1;refine Br.y ?_;refine Dr.d ?_;refine Ar.fit (show -9223372036854775808<=(zr.getD 3 zp).x*w/\(zr.getD 3 zp).x*w<=9223372036854775807 by omega) ?_;refine zb.t (zC ((zr.getD 3 zp).x*w) 32768 ⟨oM,oM⟩ ⟨dC,dC⟩) ?_;rw [t1.2.2];refine Ar.fit (show -9223372036854775808<=(zr.getD 3 zp).y*w/\(zr.getD 3 zp).y*w<=9223372036854775807 by omega) ?_;refine zb.t (zC ((zr.getD 3 zp).y*w) 32768 ⟨oM,oM⟩ ⟨dC,dC⟩) ?_;rw [t2.2.2]
  refine zb.t (jk p ⟨zQ ((zr.getD 3 zp).x*w) 32768,zQ ((zr.getD 3 zp).y*w) 32768⟩ h.2.p45.s ⟨by dsimp only;omega,by dsimp only;omega⟩) ?_;refine ⟨Pt,ptE,[qI p w (zr.getD 3 zp)],rfl,Ob.o0 ?_⟩;refine ⟨[qI p w (zr.getD 3 zp)],rfl,Ob.o15 ?_⟩;refine Ob.mk (by kernel_rfl) ?_;refine Ar.fit dC ?_;exact ⟨4,dC,zh [(0,some 0),(1,some 4)],dC⟩
 | 4,_=>
  have hb:=jy (zr.getD 4 zp) dC;have t1:=zR hb.1 h.1;have t2:=zR hb.2 h.1;refine Br.y ?_;refine Dr.d ?_;refine Ar.fit (show -9223372036854775808<=(zr.getD 4 zp).x*w/\(zr.getD 4 zp).x*w<=9223372036854775807 by omega) ?_;refine zb.t (zC ((zr.getD 4 zp).x*w) 32768 ⟨oM,oM⟩ ⟨dC,dC⟩) ?_;rw [t1.2.2];refine Ar.fit (show -9223372036854775808<=(zr.getD 4 zp).y*w/\(zr.getD 4 zp).y*w<=9223372036854775807 by omega) ?_;refine zb.t (zC ((zr.getD 4 zp).y*w) 32768 ⟨oM,oM⟩ ⟨dC,dC⟩) ?_;rw [t2.2.2]
  refine zb.t (jk p ⟨zQ ((zr.getD 4 zp).x*w) 32768,zQ ((zr.getD 4 zp).y*w) 32768⟩ h.2.p45.s ⟨by dsimp only;omega,by dsimp only;omega⟩) ?_;refine ⟨Pt,ptE,[qI p w (zr.getD 4 zp)],rfl,Ob.o0 ?_⟩;refine ⟨[qI p w (zr.getD 4 zp)],rfl,Ob.mk ⟨by show ((4:Nat)+((1:Nat):Int))*16<=_;decide,by show 4+1<=_;decide,dC,fun _ _=>rfl⟩ ?_⟩;refine Ob.mk (by kernel_rfl) ?_;refine Ar.fit dC ?_;exact ⟨5,dC,zh [(0,some 0),(1,some 4)],dC⟩
 | 5,_=>
  have hb:=jy (zr.getD 5 zp) dC;have t1:=zR hb.1 h.1;have t2:=zR hb.2 h.1;refine Br.y ?_;refine Dr.d ?_;refine Ar.fit (show -9223372036854775808<=(zr.getD 5 zp).x*w/\(zr.getD 5 zp).x*w<=9223372036854775807 by omega) ?_;refine zb.t (zC ((zr.getD 5 zp).x*w) 32768 ⟨oM,oM⟩ ⟨dC,dC⟩) ?_;rw [t1.2.2];refine Ar.fit (show -9223372036854775808<=(zr.getD 5 zp).y*w/\(zr.getD 5 zp).y*w<=9223372036854775807 by omega) ?_;refine zb.t (zC ((zr.getD 5 zp).y*w) 32768 ⟨oM,oM⟩ ⟨dC,dC⟩) ?_;rw [t2.2.2]
  refine zb.t (jk p ⟨zQ ((zr.getD 5 zp).x*w) 32768,zQ ((zr.getD 5 zp).y*w) 32768⟩ h.2.p45.s ⟨by dsimp only;omega,by dsimp only;omega⟩) ?_;refine ⟨Pt,ptE,[qI p w (zr.getD 5 zp)],rfl,Ob.o0 ?_⟩;refine ⟨[qI p w (zr.getD 5 zp)],rfl,Ob.mk ⟨by show ((5:Nat)+((1:Nat):Int))*16<=_;decide,by show 5+1<=_;decide,dC,fun _ _=>rfl⟩ ?_⟩;refine Ob.mk (by kernel_rfl) ?_;refine Ar.fit dC ?_;exact ⟨6,dC,zh [(0,some 0),(1,some 4)],dC⟩
 | 6,_=>
  have hb:=jy (zr.getD 6 zp) dC;have t1:=zR hb.1 h.1;have t2:=zR hb.2 h.1;refine Br.y ?_;refine Dr.d ?_;refine Ar.fit (show -9223372036854775808<=(zr.getD 6 zp).x*w/\(zr.getD 6 zp).x*w<=9223372036854775807 by omega) ?_;refine zb.t (zC ((zr.getD 6 zp).x*w) 32768 ⟨oM,oM⟩ ⟨dC,dC⟩) ?_;rw [t1.2.2];refine Ar.fit (show -9223372036854775808<=(zr.getD 6 zp).y*w/\(zr.getD 6 zp).y*w<=9223372036854775807 by omega) ?_;refine zb.t (zC ((zr.getD 6 zp).y*w) 32768 ⟨oM,oM⟩ ⟨dC,dC⟩) ?_;rw [t2.2.2]
  refine zb.t (jk p ⟨zQ ((zr.getD 6 zp).x*w) 32768,zQ ((zr.getD 6 zp).y*w) 32768⟩ h.2.p45.s ⟨by dsimp only;omega,by dsimp only;omega⟩) ?_;refine ⟨Pt,ptE,[qI p w (zr.getD 6 zp)],rfl,Ob.o0 ?_⟩;refine ⟨[qI p w (zr.getD 6 zp)],rfl,Ob.mk ⟨by show ((6:Nat)+((1:Nat):Int))*16<=_;decide,by show 6+1<=_;decide,dC,fun _ _=>rfl⟩ ?_⟩;refine Ob.mk (by kernel_rfl) ?_;refine Ar.fit dC ?_;exact ⟨7,dC,zh [(0,some 0),(1,some 4)],dC⟩
 | 7,_=>
  have hb:=jy (zr.getD 7 zp) dC;have t1:=zR hb.1 h.1;have t2:=zR hb.2 h.1;refine Br.y ?_;refine Dr.d ?_;refine Ar.fit (show -9223372036854775808<=(zr.getD 7 zp).x*w/\(zr.getD 7 zp).x*w<=9223372036854775807 by omega) ?_;refine zb.t (zC ((zr.getD 7 zp).x*w) 32768 ⟨oM,oM⟩ ⟨dC,dC⟩) ?_;rw [t1.2.2];refine Ar.fit (show -9223372036854775808<=(zr.getD 7 zp).y*w/\(zr.getD 7 zp).y*w<=9223372036854775807 by omega) ?_;refine zb.t (zC ((zr.getD 7 zp).y*w) 32768 ⟨oM,oM⟩ ⟨dC,dC⟩) ?_;rw [t2.2.2]
  refine zb.t (jk p ⟨zQ ((zr.getD 7 zp).x*w) 32768,zQ ((zr.getD 7 zp).y*w) 32768⟩ h.2.p45.s ⟨by dsimp only;omega,by dsimp only;omega⟩) ?_;refine ⟨Pt,ptE,[qI p w (zr.getD 7 zp)],rfl,Ob.o0 ?_⟩;refine ⟨[qI p w (zr.getD 7 zp)],rfl,Ob.mk ⟨by show ((7:Nat)+((1:Nat):Int))*16<=_;decide,by show 7+1<=_;decide,dC,fun _ _=>rfl⟩ ?_⟩;refine Ob.mk (by kernel_rfl) ?_;refine Ar.fit dC ?_;exact ⟨8,dC,zh [(0,some 0),(1,some 4)],dC⟩
 | 8,_=>
  have hb:=jy (zr.getD 8 zp) dC;have t1:=zR hb.1 h.1;have t2:=zR hb.2 h.1;refine Br.y ?_;refine Dr.d ?_;refine Ar.fit (show -9223372036854775808<=(zr.getD 8 zp).x*w/\(zr.getD 8 zp).x*w<=9223372036854775807 by omega) ?_;refine zb.t (zC ((zr.getD 8 zp).x*w) 32768 ⟨oM,oM⟩ ⟨dC,dC⟩) ?_;rw [t1.2.2];refine Ar.fit (show -9223372036854775808<=(zr.getD 8 zp).y*w/\(zr.getD 8 zp).y*w<=9223372036854775807 by omega) ?_;refine zb.t (zC ((zr.getD 8 zp).y*w) 32768 ⟨oM,oM⟩ ⟨dC,dC⟩) ?_;rw [t2.2.2]
  refine zb.t (jk p ⟨zQ ((zr.getD 8 zp).x*w) 32768,zQ ((zr.getD 8 zp).y*w) 32768⟩ h.2.p45.s ⟨by dsimp only;omega,by dsimp only;omega⟩) ?_;refine ⟨Pt,ptE,[qI p w (zr.getD 8 zp)],rfl,Ob.o0 ?_⟩;refine ⟨[qI p w (zr.getD 8 zp)],rfl,Ob.mk ⟨by show ((8:Nat)+((1:Nat):Int))*16<=_;decide,by show 8+1<=_;decide,dC,fun _ _=>rfl⟩ ?_⟩;refine Ob.mk (by kernel_rfl) ?_;refine Ar.fit dC ?_;exact ⟨9,dC,zh [(0,some 0),(1,some 4)],dC⟩
 | 9,_=>
  have hb:=jy (zr.getD 9 zp) dC;have t1:=zR hb.1 h.1;have t2:=zR hb.2 h.1;refine Br.y ?_;refine Dr.d ?_;refine Ar.fit (show -9223372036854775808<=(zr.getD 9 zp).x*w/\(zr.getD 9 zp).x*w<=9223372036854775807 by omega) ?_;refine zb.t (zC ((zr.getD 9 zp).x*w) 32768 ⟨oM,oM⟩ ⟨dC,dC⟩) ?_;rw [t1.2.2];refine Ar.fit (show -9223372036854775808<=(zr.getD 9 zp).y*w/\(zr.getD 9 zp).y*w<=9223372036854775807 by omega) ?_;refine zb.t (zC ((zr.getD 9 zp).y*w) 32768 ⟨oM,oM⟩ ⟨dC,dC⟩) ?_;rw [t2.2.2]
  refine zb.t (jk p ⟨zQ ((zr.getD 9 zp).x*w) 32768,zQ ((zr.getD 9 zp).y*w) 32768⟩ h.2.p45.s ⟨by dsimp only;omega,by dsimp only;omega⟩) ?_;refine ⟨Pt,ptE,[qI p w (zr.getD 9 zp)],rfl,Ob.o0 ?_⟩;refine ⟨[qI p w (zr.getD 9 zp)],rfl,Ob.mk ⟨by show ((9:Nat)+((1:Nat):Int))*16<=_;decide,by show 9+1<=_;decide,dC,fun _ _=>rfl⟩ ?_⟩;refine Ob.mk (by kernel_rfl) ?_;refine Ar.fit dC ?_;exact ⟨10,dC,zh [(0,some 0),(1,some 4)],dC⟩
 | 10,_=>
  have hb:=jy (zr.getD 10 zp) dC;have t1:=zR hb.1 h.1;have t2:=zR hb.2 h.1;refine Br.y ?_;refine Dr.d ?_;refine Ar.fit (show -9223372036854775808<=(zr.getD 10 zp).x*w/\(zr.getD 10 zp).x*w<=9223372036854775807 by omega) ?_;refine zb.t (zC ((zr.getD 10 zp).x*w) 32768 ⟨oM,oM⟩ ⟨dC,dC⟩) ?_;rw [t1.2.2];refine Ar.fit (show -9223372036854775808<=(zr.getD 10 zp).y*w/\(zr.getD 10 zp).y*w<=9223372036854775807 by omega) ?_;refine zb.t (zC ((zr.getD 10 zp).y*w) 32768 ⟨oM,oM⟩ ⟨dC,dC⟩) ?_;rw [t2.2.2]
  refine zb.t (jk p ⟨zQ ((zr.getD 10 zp).x*w) 32768,zQ ((zr.getD 10 zp).y*w) 32768⟩ h.2.p45.s ⟨by dsimp only;omega,by dsimp only;omega⟩) ?_;refine ⟨Pt,ptE,[qI p w (zr.getD 10 zp)],rfl,Ob.o0 ?_⟩;refine ⟨[qI p w (zr.getD 10 zp)],rfl,Ob.mk ⟨by show ((10:Nat)+((1:Nat):Int))*16<=_;decide,by show 10+1<=_;decide,dC,fun _ _=>rfl⟩ ?_⟩;refine Ob.mk (by kernel_rfl) ?_;refine Ar.fit dC ?_;exact ⟨11,dC,zh [(0,some 0),(1,some 4)],dC⟩
 | 11,_=>
  have hb:=jy (zr.getD 11 zp) dC;have t1:=zR hb.1 h.1;have t2:=zR hb.2 h.1;refine Br.y ?_;refine Dr.d ?_;refine Ar.fit (show -9223372036854775808<=(zr.getD 11 zp).x*w/\(zr.getD 11 zp).x*w<=9223372036854775807 by omega) ?_;refine zb.t (zC ((zr.getD 11 zp).x*w) 32768 ⟨oM,oM⟩ ⟨dC,dC⟩) ?_;rw [t1.2.2];refine Ar.fit (show -9223372036854775808<=(zr.getD 11 zp).y*w/\(zr.getD 11 zp).y*w<=9223372036854775807 by omega) ?_;refine zb.t (zC ((zr.getD 11 zp).y*w) 32768 ⟨oM,oM⟩ ⟨dC,dC⟩) ?_;rw [t2.2.2]
  refine zb.t (jk p ⟨zQ ((zr.getD 11 zp).x*w) 32768,zQ ((zr.getD 11 zp).y*w) 32768⟩ h.2.p45.s ⟨by dsimp only;omega,by dsimp only;omega⟩) ?_;refine ⟨Pt,ptE,[qI p w (zr.getD 11 zp)],rfl,Ob.o0 ?_⟩;refine ⟨[qI p w (zr.getD 11 zp)],rfl,Ob.mk ⟨by show ((11:Nat)+((1:Nat):Int))*16<=_;decide,by show 11+1<=_;decide,dC,fun _ _=>rfl⟩ ?_⟩;refine Ob.mk (by kernel_rfl) ?_;refine Ar.fit dC ?_;exact ⟨12,dC,zh [(0,some 0),(1,some 4)],dC⟩
 | 12,_=>
  have hb:=jy (zr.getD 12 zp) dC;have t1:=zR hb.1 h.1;have t2:=zR hb.2 h.1;refine Br.y ?_;refine Dr.d ?_;refine Ar.fit (show -9223372036854775808<=(zr.getD 12 zp).x*w/\(zr.getD 12 zp).x*w<=9223372036854775807 by omega) ?_;refine zb.t (zC ((zr.getD 12 zp).x*w) 32768 ⟨oM,oM⟩ ⟨dC,dC⟩) ?_;rw [t1.2.2];refine Ar.fit (show -9223372036854775808<=(zr.getD 12 zp).y*w/\(zr.getD 12 zp).y*w<=9223372036854775807 by omega) ?_;refine zb.t (zC ((zr.getD 12 zp).y*w) 32768 ⟨oM,oM⟩ ⟨dC,dC⟩) ?_;rw [t2.2.2]
  refine zb.t (jk p ⟨zQ ((zr.getD 12 zp).x*w) 32768,zQ ((zr.getD 12 zp).y*w) 32768⟩ h.2.p45.s ⟨by dsimp only;omega,by dsimp only;omega⟩) ?_;refine ⟨Pt,ptE,[qI p w (zr.getD 12 zp)],rfl,Ob.o0 ?_⟩;refine ⟨[qI p w (zr.getD 12 zp)],rfl,Ob.mk ⟨by show ((12:Nat)+((1:Nat):Int))*16<=_;decide,by show 12+1<=_;decide,dC,fun _ _=>rfl⟩ ?_⟩;refine Ob.mk (by kernel_rfl) ?_;refine Ar.fit dC ?_;exact ⟨13,dC,zh [(0,some 0),(1,some 4)],dC⟩
 | 13,_=>
  have hb:=jy (zr.getD 13 zp) dC;have t1:=zR hb.1 h.1;have t2:=zR hb.2 h.1;refine Br.y ?_;refine Dr.d ?_;refine Ar.fit (show -9223372036854775808<=(zr.getD 13 zp).x*w/\(zr.getD 13 zp).x*w<=9223372036854775807 by omega) ?_;refine zb.t (zC ((zr.getD 13 zp).x*w) 32768 ⟨oM,oM⟩ ⟨dC,dC⟩) ?_;rw [t1.2.2];refine Ar.fit (show -9223372036854775808<=(zr.getD 13 zp).y*w/\(zr.getD 13 zp).y*w<=9223372036854775807 by omega) ?_;refine zb.t (zC ((zr.getD 13 zp).y*w) 32768 ⟨oM,oM⟩ ⟨dC,dC⟩) ?_;rw [t2.2.2]
  refine zb.t (jk p ⟨zQ ((zr.getD 13 zp).x*w) 32768,zQ ((zr.getD 13 zp).y*w) 32768⟩ h.2.p45.s ⟨by dsimp only;omega,by dsimp only;omega⟩) ?_;refine ⟨Pt,ptE,[qI p w (zr.getD 13 zp)],rfl,Ob.o0 ?_⟩;refine ⟨[qI p w (zr.getD 13 zp)],rfl,Ob.mk ⟨by show ((13:Nat)+((1:Nat):Int))*16<=_;decide,by show 13+1<=_;decide,dC,fun _ _=>rfl⟩ ?_⟩;refine Ob.mk (by kernel_rfl) ?_;refine Ar.fit dC ?_;exact ⟨14,dC,zh [(0,some 0),(1,some 4)],dC⟩
 | 14,_=>
  have hb:=jy (zr.getD 14 zp) dC;have t1:=zR hb.1 h.1;have t2:=zR hb.2 h.1;refine Br.y ?_;refine Dr.d ?_;refine Ar.fit (show -9223372036854775808<=(zr.getD 14 zp).x*w/\(zr.getD 14 zp).x*w<=9223372036854775807 by omega) ?_;refine zb.t (zC ((zr.getD 14 zp).x*w) 32768 ⟨oM,oM⟩ ⟨dC,dC⟩) ?_;rw [t1.2.2];refine Ar.fit (show -9223372036854775808<=(zr.getD 14 zp).y*w/\(zr.getD 14 zp).y*w<=9223372036854775807 by omega) ?_;refine zb.t (zC ((zr.getD 14 zp).y*w) 32768 ⟨oM,oM⟩ ⟨dC,dC⟩) ?_;rw [t2.2.2]
  refine zb.t (jk p ⟨zQ ((zr.getD 14 zp).x*w) 32768,zQ ((zr.getD 14 zp).y*w) 32768⟩ h.2.p45.s ⟨by dsimp only;omega,by dsimp only;omega⟩) ?_;refine ⟨Pt,ptE,[qI p w (zr.getD 14 zp)],rfl,Ob.o0 ?_⟩;refine ⟨[qI p w (zr.getD 14 zp)],rfl,Ob.mk ⟨by show ((14:Nat)+((1:Nat):Int))*16<=_;decide,by show 14+1<=_;decide,dC,fun _ _=>rfl⟩ ?_⟩;refine Ob.mk (by kernel_rfl) ?_;refine Ar.fit dC ?_;exact ⟨15,dC,zh [(0,some 0),(1,some 4)],dC⟩
 | 15,_=>
  have hb:=jy (zr.getD 15 zp) dC;have t1:=zR hb.1 h.1;have t2:=zR hb.2 h.1;refine Br.y ?_;refine Dr.d ?_;refine Ar.fit (show -9223372036854775808<=(zr.getD 15 zp).x*w/\(zr.getD 15 zp).x*w<=9223372036854775807 by omega) ?_;refine zb.t (zC ((zr.getD 15 zp).x*w) 32768 ⟨oM,oM⟩ ⟨dC,dC⟩) ?_;rw [t1.2.2];refine Ar.fit (show -9223372036854775808<=(zr.getD 15 zp).y*w/\(zr.getD 15 zp).y*w<=9223372036854775807 by omega) ?_;refine zb.t (zC ((zr.getD 15 zp).y*w) 32768 ⟨oM,oM⟩ ⟨dC,dC⟩) ?_;rw [t2.2.2]
  refine zb.t (jk p ⟨zQ ((zr.getD 15 zp).x*w) 32768,zQ ((zr.getD 15 zp).y*w) 32768⟩ h.2.p45.s ⟨by dsimp only;omega,by dsimp only;omega⟩) ?_;refine ⟨Pt,ptE,[qI p w (zr.getD 15 zp)],rfl,Ob.o0 ?_⟩;refine ⟨[qI p w (zr.getD 15 zp)],rfl,Ob.mk ⟨by show ((15:Nat)+((1:Nat):Int))*16<=_;decide,by show 15+1<=_;decide,dC,fun _ _=>rfl⟩ ?_⟩;refine Ob.mk (by kernel_rfl) ?_;refine Ar.fit dC ?_;exact ⟨16,dC,zh [(0,some 0),(1,some 4)],dC⟩
 | 16,_=>
  refine Br.mk (fun h=>absurd h dC) (fun _=>?_);refine zb.see 1 _ (uD (zr.map (qI p w)) (by show ((16:Nat):Int)<=_;decide)) rfl rfl rfl ?_;refine qb (show kj (zr.map (qI p w))=vZ p w from ?_);unfold vZ;rw [if_neg (fun k=>k h)];rfl
 | _+17,hi=>exact absurd hi oM
theorem zcs(p q:Pt)(hp:S50 p.x/\S50 p.y)(hq:S50 q.x/\S50 q.y):zd Tryz.prog 240 [.agg (ptE p),.agg (ptE q)] [] (.agg (ptE (zH p q))) []:=by
 refine zc tok mix Tryz.func240 rfl rfl rfl ?_;(iterate 2 refine Ar.o ?_);exact .refl
theorem zjE(r:List Pt):zd Tryz.prog 238 [.sl ptE r] [] (.sl zw (kT r)) []:=by
 refine zc tok mix Tryz.func238 rfl rfl rfl ?_;intro hl1;refine Br.mk (fun h=>?_) (fun h=>?_)
 ·have e:kT r=[]:=by unfold kT;rw [if_pos (List.eq_nil_of_length_eq_zero (by have h:(r.length:Int)=0:=h;omega))]
  rw [e];exact ku
 ·refine ⟨List Pt,zw,[r],rfl,Ob.o0 ?_⟩;refine qb (show [r]=kT r from ?_);unfold kT;rw [if_neg (fun e=>h (by rw [e];rfl))]
end Go.Gs
