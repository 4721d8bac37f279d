/- The rings of a stroke, za the second text has them. -/
import Derived.Test.YtbgnkgoiocjbnaaGreatMA
import Derived.Test.YtbgnkgoiocjbnaaGreatMBN
import Derived.Test.YtbgnkgoiocjbnaaGreatMBE
set_option maxRecDepth 100000
set_option maxHeartbeats 8000000
set_option linter.all false
namespace Go.Gs
open Go.Proofs
theorem y7(r:List Pt):(kT r).length<=1:=by unfold kT;split <;> simp
def zj4(l:List Pt)(w:Int)(n:Nat):List (List Pt):=(List.range n).flatMap fun i=>kT (yl (nth l i) (nth l (i+1)) w)
theorem ziK(l:List Pt)(w:Int)(n:Nat):zj4 l w (n+1)=zj4 l w n++kT (yl (nth l n) (nth l (n+1)) w):=by
 unfold zj4;rw [List.range_succ,List.flatMap_append,List.flatMap_singleton]
theorem zsi(l:List Pt)(w:Int)(n:Nat):(zj4 l w n).length<=n:=by
 induction n with
 | zero=>exact Nat.le_refl 0
 | succ n ih=>
  rw [ziK,List.length_append];have:=y7 (yl (nth l n) (nth l (n+1)) w);omega
theorem zaD(p:Pl)(pen:Pen):jr p pen=zj4 p.pts pen.w (p.pts.length - 1)++
  (if p.cl=true/\1 < p.pts.length then kT (yl (nth p.pts (p.pts.length - 1)) (nth p.pts 0) pen.w) else []):=rfl
theorem zhe(p:Pl)(pen:Pen):(jr p pen).length<=p.pts.length+1:=by
 rw [zaD,List.length_append];have h1:=zsi p.pts pen.w (p.pts.length - 1);have h2:=y7 (yl (nth p.pts (p.pts.length - 1)) (nth p.pts 0) pen.w)
 split
 ·omega
 ·rw [List.length_nil];omega
theorem zxf(p:Pl)(pen:Pen)(hp:p.pts.length<=4096):zd Tryz.prog 185 [.agg (plE p),.agg (yi pen)] [] (.own 0) [(0,.arr 76 zw 1 (jr p pen))]:=by
 refine jD tok mix Tryz.func185 rfl rfl rfl ?_;refine ⟨List Pt,zw,[],rfl,Ob.o2 ?_⟩;intro hl1;refine ⟨Nat,fun i=>⟨[(2,.loc 0 0),(3,.loc 1 0),(5,.own 2),(6,i64 (p.pts.length:Int)),(7,i64 (i:Int))],[(0,.box 85 [.sl ptE p.pts,pr (p.cl=true)]),(1,.box 42 (yi pen)),(2,.arr 76 zw 1 (zj4 p.pts pen.w i))],3,56,0⟩,fun i=>i<=p.pts.length - 1,fun i=>p.pts.length - i,0,?_,?_,?_⟩
 ·exact Nat.zero_le _
 ·exact zh [(0,some 0),(1,some 1),(2,some 2)]
 rintro i hi
 have bl:=zsi p.pts pen.w i;refine Ar.o ?_;refine Br.mk (fun g=>?_) (fun g=>?_)
 ·have g:(i:Int)+1 < p.pts.length:=g;refine Dr.d ?_;refine Ob.o ?_;intro x hx;have hx:=yL (show p.pts[i]? =some x from hx);refine Ar.o ?_;refine Ob.o ?_;intro y hy;have hy:=yL (show p.pts[i+1]? =some y from hy);refine zb.t (zxb x y pen.w) ?_
  refine zb.give [2] 1 [.own 0,.sl ptE (yl x y pen.w)] [(0,.arr 76 zw 1 (zj4 p.pts pen.w i))] [(1,.arr 76 zw 1 (zj4 p.pts pen.w i++kT (yl x y pen.w)))] (.own 1) (zwf (zj4 p.pts pen.w i) (yl x y pen.w) oM)
   LEs.refl rfl rfl rfl ⟨⟨_,rfl,rfl,trivial⟩,trivial⟩ rfl ⟨⟨rfl,trivial⟩,trivial⟩ ?_
  refine Ob.mk (by kernel_rfl) ?_;refine Ar.o ?_;refine ⟨i+1,oM,zM [(0,some 0),(1,some 1),(2,some 3)] ⟨rfl,rfl,congrArg (fun q=>some (Mem.arr 76 zw 1 q)) (by rw [ziK,← hx,← hy]),trivial⟩,by dsimp only;omega⟩
 have g:¬(i:Int)+1 < p.pts.length:=g;have ei:i=p.pts.length - 1:=oM
 have no:¬(p.cl=true/\1 < p.pts.length)->∃k,zak k (.own 2) (.own 0)/\zud [(0,.box 85 [.sl ptE p.pts,pr (p.cl=true)]),(1,.box 42 (yi pen)),(2,.arr 76 zw 1 (zj4 p.pts pen.w i))] k (.arr 76 zw 1 (jr p pen)):=fun h=>by
  refine ⟨some 2,.own _ rfl,congrArg (fun q=>some (Mem.arr 76 zw 1 q)) ?_,fun _ _=>rfl⟩;rw [zaD,if_neg h,ei,List.append_nil]
 refine Br.mk (fun c=>?_) (fun c=>no fun h=>c h.1);refine Br.mk (fun c2=>?_) (fun c2=>no fun h=>c2 (show (1:Int) < p.pts.length by have:=h.2;omega))
 ·have c:p.cl=true:=c;have c2:(1:Int) < p.pts.length:=c2;refine Dr.d ?_;refine Ar.o ?_;refine Ob.o ?_;intro x hx;have hx:=yL (show p.pts[((p.pts.length:Int) - 1).toNat]? =some x from hx);refine Ob.o ?_;intro y hy;have hy:=yL (show p.pts[0]? =some y from hy);refine zb.t (zxb x y pen.w) ?_
  refine zb.give [2] 1 [.own 0,.sl ptE (yl x y pen.w)] [(0,.arr 76 zw 1 (zj4 p.pts pen.w i))] [(1,.arr 76 zw 1 (zj4 p.pts pen.w i++kT (yl x y pen.w)))] (.own 1) (zwf (zj4 p.pts pen.w i) (yl x y pen.w) oM)
   LEs.refl rfl rfl rfl ⟨⟨_,rfl,rfl,trivial⟩,trivial⟩ rfl ⟨⟨rfl,trivial⟩,trivial⟩ ?_
  refine Ob.mk (by kernel_rfl) ?_;refine ⟨some 3,.own _ rfl,congrArg (fun q=>some (Mem.arr 76 zw 1 q)) ?_,fun _ _=>rfl⟩;rw [zaD,if_pos ⟨c,oM⟩,ei,hx,hy,show ((p.pts.length:Int) - 1).toNat=p.pts.length - 1 by omega]
def zfb(p:Pl)(pen:Pen)(i:Nat):List (List Pt):=if ¬p.cl=true/\(i=0∨i=p.pts.length - 1) then []
  else yP (nth p.pts ((i+p.pts.length - 1) % p.pts.length)) (nth p.pts i) (nth p.pts ((i+1) % p.pts.length)) pen
def y9(p:Pl)(pen:Pen)(n:Nat):List (List Pt):=(List.range n).flatMap (zfb p pen)
theorem zhf(p:Pl)(pen:Pen)(n:Nat):y9 p pen (n+1)=y9 p pen n++zfb p pen n:=by
 unfold y9;rw [List.range_succ,List.flatMap_append,List.flatMap_singleton]
theorem zb3(p:Pl)(pen:Pen):zex p pen=if p.pts.length<=1 then [] else y9 p pen p.pts.length:=rfl
theorem ziL(a v b:Pt)(p:Pen):(yP a v b p).length<=1:=by
 unfold yP
 split
 ·decide
 ·split
  ·exact y7 _
  ·split
   ·decide
   ·exact y7 _
theorem zpS(p:Pl)(pen:Pen)(i:Nat):(zfb p pen i).length<=1:=by
 unfold zfb
 split
 ·decide
 ·exact ziL ..
theorem ziM(p:Pl)(pen:Pen)(n:Nat):(y9 p pen n).length<=n:=by
 induction n with
 | zero=>exact Nat.le_refl 0
 | succ n ih=>
  rw [zhf,List.length_append];have:=zpS p pen n;omega
theorem zpT(p:Pl)(pen:Pen):(zex p pen).length<=p.pts.length:=by
 rw [zb3]
 split
 ·exact Nat.zero_le _
 ·exact ziM ..
theorem zwU{out rs:List (List Pt)}{i:Nat}{x:List Pt}(h:rs[i]? =some x):y8 out (rs.take (i+1))=y8 out (rs.take i)++kT x:=by
 rw [zeG h];unfold kT
 cases x with
 | nil=>simp
 | cons a b=>simp
theorem zxt(p:Pl)(pen:Pen)(hp:p.pts.length<=4096):zd Tryz.prog 186 [.agg (plE p),.agg (yi pen)] [] (.sl zw (zex p pen)) []:=by
 refine zc tok mix Tryz.func186 rfl rfl rfl ?_;refine ⟨List Pt,zw,[],rfl,Ob.o2 ?_⟩;intro hl1;refine ⟨Nat,fun i=>⟨[(2,.loc 0 0),(3,.loc 1 0),(5,.own 2),(6,i64 (p.pts.length:Int)),(7,i64 (i:Int))],[(0,.box 85 [.sl ptE p.pts,pr (p.cl=true)]),(1,.box 42 (yi pen)),(2,.arr 76 zw 1 (y9 p pen i))],3,74,0⟩,fun i=>i<=p.pts.length/\(p.pts.length<=1->i=0),fun i=>p.pts.length - i,0,?_,?_,?_⟩
 ·exact ⟨Nat.zero_le _,fun _=>rfl⟩
 ·exact zh [(0,some 0),(1,some 1),(2,some 2)]
 rintro i ⟨hi,h1⟩
 have bl:=ziM p pen i;have e:=zhf p pen i
 have over:(p.pts.length<=i∨p.pts.length<=1)->LE (.sl zw (y9 p pen i)) (.sl zw (zex p pen)):=fun h=>by
  refine qb ?_;rw [zb3]
  split
  ·rename_i k;rw [h1 k];rfl
  ·rw [show i=p.pts.length by omega]
 refine Br.mk (fun g=>?_) (fun g=>over (.inl (by have g:¬(i:Int) < p.pts.length:=g;omega)));have g:(i:Int) < p.pts.length:=g;refine Br.mk (fun g2=>?_) (fun g2=>over (.inr (by have g2:¬(1:Int) < p.pts.length:=g2;omega)));have g2:(1:Int) < p.pts.length:=g2
 have skip:¬p.cl=true->i=0∨i=p.pts.length - 1->y9 p pen i=y9 p pen (i+1):=fun h k=>by
  rw [e,show zfb p pen i=[] from if_pos ⟨h,k⟩,List.append_nil]
 refine Br.mk (fun c=>Br.mk (fun c1=>?A) (fun c1=>Ar.fit oM (Br.mk (fun c2=>?B) (fun c2=>?C)))) (fun c=>?D)
 case A=>
  have c1:(i:Int)=0:=c1;refine Ar.o ?_;exact ⟨i+1,⟨oM,fun _=>by omega⟩,zM [(0,some 0),(1,some 1),(2,some 2)] ⟨rfl,rfl,congrArg (fun q=>some (Mem.arr 76 zw 1 q)) (skip c (.inl oM)),trivial⟩,by dsimp only;omega⟩
 case B=>
  have c2:(i:Int)=p.pts.length - 1:=c2;refine Ar.o ?_;exact ⟨i+1,⟨oM,fun _=>by omega⟩,zM [(0,some 0),(1,some 1),(2,some 2)] ⟨rfl,rfl,congrArg (fun q=>some (Mem.arr 76 zw 1 q)) (skip c (.inr oM)),trivial⟩,by dsimp only;omega⟩
 case' C=>
  have c1:¬(i:Int)=0:=c1;have c2:¬(i:Int)=p.pts.length - 1:=c2;replace c:¬(¬p.cl=true/\(i=0∨i=p.pts.length - 1)):=fun h=>oM
 case' D=>replace c:¬(¬p.cl=true/\(i=0∨i=p.pts.length - 1)):=fun h=>c h.1
 all_goals
  have m1:=Int.emod_nonneg ((i:Int)+p.pts.length - 1) (show (p.pts.length:Int)≠0 by omega);have m2:=Int.emod_lt_of_pos ((i:Int)+p.pts.length - 1) (show 0 < (p.pts.length:Int) by omega);have m3:=Int.emod_nonneg ((i:Int)+1) (show (p.pts.length:Int)≠0 by omega);have m4:=Int.emod_lt_of_pos ((i:Int)+1) (show 0 < (p.pts.length:Int) by omega)
  have e1:(((i:Int)+p.pts.length - 1) % p.pts.length).toNat=(i+p.pts.length - 1) % p.pts.length:=by
   rw [show (i:Int)+p.pts.length - 1=((i+p.pts.length - 1:Nat):Int) by omega];omega
  have e2:(((i:Int)+1) % p.pts.length).toNat=(i+1) % p.pts.length:=by
   rw [show (i:Int)+1=((i+1:Nat):Int) by omega];omega
  refine Dr.d ?_;(iterate 2 refine Ar.o ?_);refine Dv.pos ⟨oM,oM⟩ ?_;refine Ob.mk ⟨m1,m2⟩ ?_;intro x hx;have hx:=yL (show p.pts[(((i:Int)+p.pts.length - 1) % p.pts.length).toNat]? =some x from hx);rw [e1] at hx;refine Ob.o ?_;intro y hy;have hy:=yL (show p.pts[i]? =some y from hy);refine Ar.o ?_;refine Dv.pos ⟨oM,oM⟩ ?_;refine Ob.mk ⟨m3,m4⟩ ?_;intro z hz;have hz:=yL (show p.pts[(((i:Int)+1) % p.pts.length).toNat]? =some z from hz);rw [e2] at hz;refine zb.t (zxO x y z pen) ?_;refine Ob.mk (by kernel_rfl) ?_;have jl:=ziL x y z pen
  refine ⟨Nat,fun j=>⟨[(2,.loc 0 0),(3,.loc 1 0),(5,.own 2),(6,i64 (p.pts.length:Int)),(7,i64 (i:Int)),(8,.sl zw (yP x y z pen)),(9,i64 (j:Int))],[(0,.box 85 [.sl ptE p.pts,pr (p.cl=true)]),(1,.box 42 (yi pen)),(2,.arr 76 zw 1 (y8 (y9 p pen i) ((yP x y z pen).take j)))],3,74,0⟩,fun j=>j<=(yP x y z pen).length,fun j=>(yP x y z pen).length - j,0,?_,?_,?_⟩
  ·exact Nat.zero_le _
  ·exact zM [(0,some 0),(1,some 1),(2,some 2)] ⟨rfl,rfl,congrArg (fun q=>some (Mem.arr 76 zw 1 q)) (List.append_nil (y9 p pen i)).symm,trivial⟩
  rintro j hj
  have pl:=zhc (y9 p pen i) ((yP x y z pen).take j);rw [List.length_take] at pl;intro hl4;refine Br.mk (fun k=>?_) (fun k=>?_)
  ·have k:(j:Int) < (yP x y z pen).length:=k;refine Ob.o ?_;intro r hr;have hr:=zwU (out:=y9 p pen i) (show (yP x y z pen)[j]? =some r from hr)
   refine zb.give [2] 1 [.own 0,.sl ptE r] [(0,.arr 76 zw 1 (y8 (y9 p pen i) ((yP x y z pen).take j)))] [(1,.arr 76 zw 1 (y8 (y9 p pen i) ((yP x y z pen).take j)++kT r))] (.own 1) (zwf (y8 (y9 p pen i) ((yP x y z pen).take j)) r oM)
    LEs.refl rfl rfl rfl ⟨⟨_,rfl,rfl,trivial⟩,trivial⟩ rfl ⟨⟨rfl,trivial⟩,trivial⟩ ?_
   refine Ar.o ?_;refine ⟨j+1,oM,zM [(0,some 0),(1,some 1),(2,some 3)] ⟨rfl,rfl,congrArg (fun q=>some (Mem.arr 76 zw 1 q)) hr.symm,trivial⟩,by dsimp only;omega⟩
  ·have k:¬(j:Int) < (yP x y z pen).length:=k;refine Ar.o ?_;refine ⟨i+1,⟨oM,fun _=>by omega⟩,zM [(0,some 0),(1,some 1),(2,some 2)] ⟨rfl,rfl,congrArg (fun q=>some (Mem.arr 76 zw 1 q)) ?_,trivial⟩,by dsimp only;omega⟩;rw [List.take_of_length_le oM,zsf zoz,e,show zfb p pen i=yP x y z pen by rw [hx,hy,hz];exact if_neg c]
theorem zsj{p:Pl}{pen:Pen}(h:p.pts.length=1):zbj p pen=kT (zcJ (nth p.pts 0) pen):=by unfold zbj;rw [if_pos h]
theorem zsk{p:Pl}{pen:Pen}(h:1 < p.pts.length)(k:¬p.cl=true):zbj p pen=kT (vD (nth p.pts 1) (nth p.pts 0) pen)++kT (vD (nth p.pts (p.pts.length - 2)) (nth p.pts (p.pts.length - 1)) pen):=by
 unfold zbj;rw [if_neg (show ¬p.pts.length=1 by omega),if_pos ⟨h,k⟩]
theorem zoA{p:Pl}{pen:Pen}(h:¬p.pts.length=1)(k:¬(1 < p.pts.length/\¬p.cl=true)):zbj p pen=[]:=by
 unfold zbj;rw [if_neg h,if_neg k]
theorem zsl(p:Pl)(pen:Pen):(zbj p pen).length<=2:=by
 unfold zbj
 split
 ·have:=y7 (zcJ (nth p.pts 0) pen);omega
 ·split
  ·have h1:=y7 (vD (nth p.pts 1) (nth p.pts 0) pen);have h2:=y7 (vD (nth p.pts (p.pts.length - 2)) (nth p.pts (p.pts.length - 1)) pen);rw [List.length_append];omega
  ·decide
theorem zne(p:Pl)(pen:Pen):(qa p pen).length<=2*p.pts.length+3:=by
 unfold qa;rw [List.length_append,List.length_append];have h1:=zhe p pen;have h2:=zpT p pen;have h3:=zsl p pen;omega
theorem ziN{p:Pl}{pen:Pen}(h:¬1 < p.pts.length):jr p pen=zj4 p.pts pen.w (p.pts.length - 1):=by
 rw [zaD,if_neg (fun k=>h k.2),List.append_nil]
theorem zl7{p:Pl}{pen:Pen}(h:p.pts.length<=1):zex p pen=[]:=by rw [zb3,if_pos h]
theorem znf{p:Pl}{pen:Pen}(h:p.pts.length=0):qa p pen=[]:=by
 unfold qa;rw [ziN oM,zl7 oM,zoA oM oM,h];rfl
theorem zng{p:Pl}{pen:Pen}(h:p.pts.length=1):qa p pen=kT (zcJ (nth p.pts 0) pen):=by
 unfold qa;rw [ziN oM,zl7 oM,zsj h,h];rfl
theorem zwV(p:Pl)(pen:Pen)(hp:p.pts.length<=4096):zd Tryz.prog 125 [.agg (plE p),.agg (yi pen)] [] (.sl zw (qa p pen)) []:=by
 refine zc tok mix Tryz.func125 rfl rfl rfl ?_;refine zb.fresh _ _ (zxf p pen hp) rfl (fun _ _=>rfl) (.inl rfl) ?_;refine zb.t (zxt p pen hp) ?_;have lb:=zhe p pen;have lj:=zpT p pen;refine ⟨Nat,fun i=>⟨[(2,.loc 0 0),(3,.loc 1 0),(5,.own 2),(6,.sl zw (zex p pen)),(7,i64 (i:Int))],[(0,.box 85 [.sl ptE p.pts,pr (p.cl=true)]),(1,.box 42 (yi pen)),(2,.arr 76 zw 1 (jr p pen++(zex p pen).take i))],3,77,0⟩,fun i=>i<=(zex p pen).length,fun i=>(zex p pen).length - i,0,?_,?_,?_⟩
 ·exact Nat.zero_le _
 ·exact zM [(0,some 0),(1,some 1),(2,some 2)] ⟨rfl,rfl,congrArg (fun q=>some (Mem.arr 76 zw 1 q)) (List.append_nil (jr p pen)).symm,trivial⟩
 rintro i hi
 intro hl1;refine Br.mk (fun g=>?_) (fun g=>?_)
 ·have g:(i:Int) < (zex p pen).length:=g;refine Ob.o ?_;intro x hx;have hx:(zex p pen)[i]? =some x:=hx;refine ⟨List Pt,zw,[x],rfl,Ob.o0 ?_⟩;refine ⟨[x],rfl,Ob.o23 ?_⟩;refine Ar.o ?_;refine ⟨i+1,oM,zM [(0,some 0),(1,some 1),(2,some 4)] ⟨rfl,rfl,congrArg (fun q=>some (Mem.arr 76 zw 1 q)) (by rw [List.take_add_one,hx];exact List.append_assoc ..),trivial⟩,by dsimp only;omega⟩
 have g:¬(i:Int) < (zex p pen).length:=g;have et:(zex p pen).take i=zex p pen:=List.take_of_length_le oM;have ll:(jr p pen++(zex p pen).take i).length<=100000:=by rw [et,List.length_append];omega
 intro hl2;refine Br.mk (fun n1=>?_) (fun n1=>?_)
 ·have n1:(p.pts.length:Int)=1:=n1;refine Dr.d ?_;refine Ob.o ?_;intro x hx;have hx:=yL (show p.pts[0]? =some x from hx);refine zb.t (zxe x pen) ?_
  refine zb.give [2] 1 [.own 0,.sl ptE (zcJ x pen)] [(0,.arr 76 zw 1 (jr p pen++(zex p pen).take i))] [(1,.arr 76 zw 1 (jr p pen++(zex p pen).take i++kT (zcJ x pen)))] (.own 1) (zwf (jr p pen++(zex p pen).take i) (zcJ x pen) ll)
   LEs.refl rfl rfl rfl ⟨⟨_,rfl,rfl,trivial⟩,trivial⟩ rfl ⟨⟨rfl,trivial⟩,trivial⟩ ?_
  refine Ob.mk (by kernel_rfl) ?_;refine Br.mk (fun k=>absurd k oM) (fun _=>?_);refine qb ?_;unfold qa;rw [et,zsj oM,hx]
 have n1:¬(p.pts.length:Int)=1:=n1
 have no:¬(1 < p.pts.length/\¬p.cl=true)->LE (.sl zw (jr p pen++(zex p pen).take i)) (.sl zw (qa p pen)):=fun h=>by
  refine qb ?_;unfold qa;rw [et,zoA oM h,List.append_nil]
 refine Br.mk (fun k=>?_) (fun k=>no fun h=>by have k:¬(1:Int) < p.pts.length:=k;omega);have k:(1:Int) < p.pts.length:=k;refine Br.mk (fun c=>?_) (fun c=>no fun h=>c h.2);have c:¬p.cl=true:=c;refine Dr.d ?_;refine Ob.o ?_;intro x hx;have hx:=yL (show p.pts[1]? =some x from hx);refine Ob.o ?_;intro y hy;have hy:=yL (show p.pts[0]? =some y from hy);refine zb.t (zxd x y pen) ?_;have s1:=y7 (vD x y pen)
 refine zb.give [2] 1 [.own 0,.sl ptE (vD x y pen)] [(0,.arr 76 zw 1 (jr p pen++(zex p pen).take i))] [(1,.arr 76 zw 1 (jr p pen++(zex p pen).take i++kT (vD x y pen)))] (.own 1) (zwf (jr p pen++(zex p pen).take i) (vD x y pen) ll)
  LEs.refl rfl rfl rfl ⟨⟨_,rfl,rfl,trivial⟩,trivial⟩ rfl ⟨⟨rfl,trivial⟩,trivial⟩ ?_
 refine Ob.mk (by kernel_rfl) ?_;refine Dr.d ?_;refine Ar.o ?_;refine Ob.o ?_;intro u hu;have hu:=yL (show p.pts[((p.pts.length:Int) - 2).toNat]? =some u from hu);rw [show ((p.pts.length:Int) - 2).toNat=p.pts.length - 2 by omega] at hu;refine Ar.o ?_;refine Ob.o ?_;intro v hv;have hv:=yL (show p.pts[((p.pts.length:Int) - 1).toNat]? =some v from hv);rw [show ((p.pts.length:Int) - 1).toNat=p.pts.length - 1 by omega] at hv;refine zb.t (zxd u v pen) ?_
 refine zb.give [3] 1 [.own 0,.sl ptE (vD u v pen)] [(0,.arr 76 zw 1 (jr p pen++(zex p pen).take i++kT (vD x y pen)))] [(1,.arr 76 zw 1 (jr p pen++(zex p pen).take i++kT (vD x y pen)++kT (vD u v pen)))] (.own 1) (zwf (jr p pen++(zex p pen).take i++kT (vD x y pen)) (vD u v pen) (by rw [et,List.length_append,List.length_append];omega))
  LEs.refl rfl rfl rfl ⟨⟨_,rfl,rfl,trivial⟩,trivial⟩ rfl ⟨⟨rfl,trivial⟩,trivial⟩ ?_
 refine Ob.mk (by kernel_rfl) ?_;refine qb ?_;unfold qa;rw [et,zsk oM c,hx,hy,hu,hv];exact List.append_assoc ..
def zhg(p:Pl)(pen:Pen)(n:Nat):List (List Pt):=(List.range n).flatMap fun i=>kT (yl (nth p.pts i) (nth p.pts ((i+1) % p.pts.length)) pen.w)
theorem zcD(p:Pl)(pen:Pen)(n:Nat):zhg p pen (n+1)=zhg p pen n++kT (yl (nth p.pts n) (nth p.pts ((n+1) % p.pts.length)) pen.w):=by
 unfold zhg;rw [List.range_succ,List.flatMap_append,List.flatMap_singleton]
theorem zj5(p:Pl)(pen:Pen):∀n,n < p.pts.length->zhg p pen n=zj4 p.pts pen.w n
 | 0,_=>rfl
 | n+1,h=>by rw [zcD,ziK,zj5 p pen n oM,Nat.mod_eq_of_lt h]
theorem zsm(p:Pl)(pen:Pen)(n:Nat):(zhg p pen n).length<=n:=by
 induction n with
 | zero=>exact Nat.le_refl 0
 | succ n ih=>
  rw [zcD,List.length_append];have:=y7 (yl (nth p.pts n) (nth p.pts ((n+1) % p.pts.length)) pen.w);omega
def zb4(p:Pl):Nat:=if p.cl=true then p.pts.length else p.pts.length - 1
theorem zl8{p:Pl}(h:p.cl=true):zb4 p=p.pts.length:=if_pos h
theorem zoB{p:Pl}(h:¬p.cl=true):zb4 p=p.pts.length - 1:=if_neg h
theorem ztH(p:Pl):zb4 p<=p.pts.length:=by unfold zb4;split <;> omega
theorem zsn{p:Pl}{pen:Pen}(h:1 < p.pts.length):zhg p pen (zb4 p)=jr p pen:=by
 rw [zaD]
 by_cases c:p.cl=true
 ·rw [zl8 c,if_pos ⟨c,h⟩];obtain ⟨m,hm⟩:∃m,p.pts.length=m+1:=⟨p.pts.length - 1,oM⟩;rw [hm,zcD,zj5 p pen m oM,hm,Nat.mod_self];rfl
 ·rw [zoB c,if_neg (fun h=>c h.1),zj5 p pen _ oM,List.append_nil]
theorem ztI(p:Pl)(pen:Pen)(hp:p.pts.length<=4096):zd Tryz.prog 122 [.agg (plE p),.agg (yi pen)] [] (.sl zw (qa p pen)) []:=by
 refine zc tok mix Tryz.func122 rfl rfl rfl ?_;intro hl1;refine Br.mk (fun n0=>?_) (fun n0=>?_)
 ·have n0:(p.pts.length:Int)=0:=n0;rw [znf oM];exact ku
 have n0:¬(p.pts.length:Int)=0:=n0;refine Br.mk (fun n1=>?_) (fun n1=>?_)
 ·have n1:(p.pts.length:Int)=1:=n1;refine Dr.d ?_;refine Ob.o ?_;intro x hx;have hx:=yL (show p.pts[0]? =some x from hx);refine zb.t (zsd x pen) ?_;refine ⟨List Pt,zw,[zcJ x pen],rfl,Ob.o0 ?_⟩
  refine zb.give [2,5] 1 [.own 1,.loc 0 0] [(0,.box 34 [.val (.slice none 0 0)]),(1,.arr 76 zw 1 [zcJ x pen])] [(0,.box 34 [.own 2]),(2,.arr 76 zw 1 (y8 [] [zcJ x pen]))] (.tup []) (zvC [zcJ x pen] (by simp))
   LEs.refl rfl rfl rfl ⟨⟨_,rfl,rfl,rfl⟩,⟨_,rfl,rfl,trivial⟩,trivial⟩ rfl ⟨⟨rfl,rfl⟩,⟨rfl,trivial⟩,trivial⟩ ?_
  refine Ob.mk (by kernel_rfl) ?_;refine qb ?_;rw [zng oM,← hx,zl5];rfl
 have n1:¬(p.pts.length:Int)=1:=n1;refine Ar.o ?_;have h2:1 < p.pts.length:=oM;refine Br.mk (fun c=>?C) (fun c=>?D)
 case' C=>
  have c:p.cl=true:=c;have hL:=zl8 c
 case' D=>
  have c:¬p.cl=true:=c;have hL:=zoB c
 all_goals
  have hle:=ztH p;refine ⟨Nat,fun i=>⟨[(2,.loc 0 0),(3,.loc 1 0),(5,.loc 2 0),(6,.fn 177 [.loc 2 0]),(7,.loc 3 0),(8,.loc 4 0),(9,.fn 179 [.loc 3 0,.loc 4 0]),(39,i64 (zb4 p:Int)),(40,i64 (i:Int))],[(0,.box 85 [.sl ptE p.pts,pr (p.cl=true)]),(1,.box 42 (yi pen)),(2,.box 34 [.own 5]),(3,.box 76 [.sl ptE p.pts]),(4,.box 3 [i64 (p.pts.length:Int)]),(5,.arr 76 zw 1 (zhg p pen i))],6,121,0⟩,fun i=>i<=zb4 p,fun i=>zb4 p - i,0,?_,?_,?_⟩
  ·exact Nat.zero_le _
  ·exact z0 [(0,some 0),(1,some 1),(2,some 2),(3,some 3),(4,some 4),(5,none)] ⟨rfl,rfl,rfl,rfl,rfl,rfl,rfl,congrArg (fun n=>some (i64 n)) oM,rfl,trivial⟩ ⟨rfl,rfl,rfl,rfl,rfl,rfl,trivial⟩
  rintro i hi
  have bl:=zsm p pen i;refine Br.mk (fun g=>?_) (fun g=>?_)
  ·have g:(i:Int) < zb4 p:=g;refine Dr.d ?_;refine Ob.o ?_;intro x hx;have hx:=yL (show p.pts[i]? =some x from hx);refine Ar.o ?_;refine zb.t (znd p.pts ((i:Int)+1) ((i+1) % p.pts.length) ⟨oM,hp⟩ ⟨oM,oM⟩ (by rw [show (i:Int)+1+p.pts.length=((i+1:Nat):Int)+(p.pts.length:Int) by omega,Int.add_emod_right];omega)) ?_;refine zb.t (zu2 x (nth p.pts ((i+1) % p.pts.length)) pen.w) ?_;refine ⟨List Pt,zw,[yl x (nth p.pts ((i+1) % p.pts.length)) pen.w],rfl,Ob.o0 ?_⟩
   refine zb.give [2,5,6] 1 [.own 2,.loc 0 0] [(0,.box 34 [.own 1]),(1,.arr 76 zw 1 (zhg p pen i)),(2,.arr 76 zw 1 [yl x (nth p.pts ((i+1) % p.pts.length)) pen.w])] [(0,.box 34 [.own 3]),(3,.arr 76 zw 1 (y8 (zhg p pen i) [yl x (nth p.pts ((i+1) % p.pts.length)) pen.w]))] (.tup []) (zsg (zhg p pen i) [yl x (nth p.pts ((i+1) % p.pts.length)) pen.w] oM (by simp))
      LEs.refl rfl rfl rfl ⟨⟨_,rfl,rfl,rfl⟩,⟨_,rfl,rfl,trivial⟩,⟨_,rfl,rfl,trivial⟩,trivial⟩ rfl ⟨⟨rfl,rfl⟩,⟨rfl,trivial⟩,trivial⟩ ?_
   refine Ob.mk (by kernel_rfl) ?_;refine Ar.o ?_;refine ⟨i+1,oM,zM [(0,some 0),(1,some 1),(2,some 2),(3,some 3),(4,some 4),(5,some 7)] ⟨rfl,rfl,rfl,rfl,rfl,congrArg (fun q=>some (Mem.arr 76 zw 1 q)) (by rw [zcD,zl5,hx]),trivial⟩,by dsimp only;omega⟩
  have g:¬(i:Int) < zb4 p:=g;have eb:zhg p pen i=jr p pen:=by rw [← zsn h2,show i=zb4 p by omega]
  refine ⟨Nat,fun i=>⟨[(2,.loc 0 0),(3,.loc 1 0),(5,.loc 2 0),(6,.fn 177 [.loc 2 0]),(7,.loc 3 0),(8,.loc 4 0),(9,.fn 179 [.loc 3 0,.loc 4 0]),(58,i64 (p.pts.length:Int)),(59,i64 (i:Int))],[(0,.box 85 [.sl ptE p.pts,pr (p.cl=true)]),(1,.box 42 (yi pen)),(2,.box 34 [.own 5]),(3,.box 76 [.sl ptE p.pts]),(4,.box 3 [i64 (p.pts.length:Int)]),(5,.arr 76 zw 1 (jr p pen++y9 p pen i))],6,121,0⟩,fun i=>i<=p.pts.length,fun i=>p.pts.length - i,0,?_,?_,?_⟩
  ·exact Nat.zero_le _
  ·exact zM [(0,some 0),(1,some 1),(2,some 2),(3,some 3),(4,some 4),(5,some 5)] ⟨rfl,rfl,rfl,rfl,rfl,congrArg (fun q=>some (Mem.arr 76 zw 1 q)) (by rw [eb];exact (List.append_nil _).symm),trivial⟩
  rintro i hi
  have lb:=zhe p pen;have lj:=ziM p pen i;have ll:(jr p pen++y9 p pen i).length<=50000:=by rw [List.length_append];omega
  have ej:=zhf p pen i;refine Br.mk (fun g=>?_) (fun g=>?_);rotate_left
  ·have g:¬(i:Int) < p.pts.length:=g;have ei:y9 p pen i=zex p pen:=by rw [zb3,if_neg oM,show i=p.pts.length by omega]
   refine Br.mk (fun o=>?_) (fun o=>?_);rotate_left
   ·refine qb ?_;unfold qa;rw [ei,zoA oM (fun h=>o h.2),List.append_nil]
   have o:¬p.cl=true:=o;refine Dr.d ?_;refine Ob.o ?_;intro x hx;have hx:=yL (show p.pts[1]? =some x from hx);refine Ob.o ?_;intro y hy;have hy:=yL (show p.pts[0]? =some y from hy);refine zb.t (zux x y pen) ?_;refine Ar.o ?_;refine Ob.o ?_;intro u hu;have hu:=yL (show p.pts[((p.pts.length:Int) - 2).toNat]? =some u from hu);rw [show ((p.pts.length:Int) - 2).toNat=p.pts.length - 2 by omega] at hu;refine Ar.o ?_;refine Ob.o ?_;intro v hv;have hv:=yL (show p.pts[((p.pts.length:Int) - 1).toNat]? =some v from hv)
   rw [show ((p.pts.length:Int) - 1).toNat=p.pts.length - 1 by omega] at hv;refine zb.t (zux u v pen) ?_;refine ⟨List Pt,zw,[vD x y pen,vD u v pen],rfl,Ob.o0 ?_⟩
   refine zb.give [2,5,6] 1 [.own 2,.loc 0 0] [(0,.box 34 [.own 1]),(1,.arr 76 zw 1 (jr p pen++y9 p pen i)),(2,.arr 76 zw 1 [vD x y pen,vD u v pen])] [(0,.box 34 [.own 3]),(3,.arr 76 zw 1 (y8 (jr p pen++y9 p pen i) [vD x y pen,vD u v pen]))] (.tup []) (zsg (jr p pen++y9 p pen i) [vD x y pen,vD u v pen] oM (by simp))
      LEs.refl rfl rfl rfl ⟨⟨_,rfl,rfl,rfl⟩,⟨_,rfl,rfl,trivial⟩,⟨_,rfl,rfl,trivial⟩,trivial⟩ rfl ⟨⟨rfl,rfl⟩,⟨rfl,trivial⟩,trivial⟩ ?_
   refine Ob.mk (by kernel_rfl) ?_;refine qb ?_;unfold qa;rw [zse,ei,zsk h2 o,hx,hy,hu,hv];exact List.append_assoc ..
  have g:(i:Int) < p.pts.length:=g
  have skip:¬p.cl=true->i=0∨i=p.pts.length - 1->jr p pen++y9 p pen i=jr p pen++y9 p pen (i+1):=fun h k=>by
   rw [ej,show zfb p pen i=[] from if_pos ⟨h,k⟩,List.append_nil]
  refine Br.mk (fun k=>?_) (fun k=>Br.mk (fun k1=>Ar.fit oM (Br.mk (fun k2=>?_) (fun k2=>?_))) (fun k1=>?_));rotate_left 2
  ·have k2:¬(i:Int) < (p.pts.length:Int) - 1:=k2;refine Ar.o ?_;exact ⟨i+1,oM,zM [(0,some 0),(1,some 1),(2,some 2),(3,some 3),(4,some 4),(5,some 5)] ⟨rfl,rfl,rfl,rfl,rfl,congrArg (fun q=>some (Mem.arr 76 zw 1 q)) (skip k (.inr oM)),trivial⟩,by dsimp only;omega⟩
  ·have k1:¬(0:Int) < (i:Int):=k1;refine Ar.o ?_;exact ⟨i+1,oM,zM [(0,some 0),(1,some 1),(2,some 2),(3,some 3),(4,some 4),(5,some 5)] ⟨rfl,rfl,rfl,rfl,rfl,congrArg (fun q=>some (Mem.arr 76 zw 1 q)) (skip k (.inl oM)),trivial⟩,by dsimp only;omega⟩
  all_goals
   have kk:¬(¬p.cl=true/\(i=0∨i=p.pts.length - 1)):=by
    first
    | exact fun h=>h.1 k
    | exact fun h=>absurd h.2 (by have k1:(0:Int) < (i:Int):=k1;have k2:(i:Int) < (p.pts.length:Int) - 1:=k2;omega)
   refine Dr.d ?_;refine Ar.o ?_;refine zb.t (znd p.pts ((i:Int) - 1) ((i+p.pts.length - 1) % p.pts.length) ⟨oM,hp⟩ ⟨oM,oM⟩ (by rw [show (i:Int) - 1+p.pts.length=((i+p.pts.length - 1:Nat):Int) by omega];omega)) ?_;refine Ob.o ?_;intro x hx;have hx:=yL (show p.pts[i]? =some x from hx);refine Ar.o ?_;refine zb.t (znd p.pts ((i:Int)+1) ((i+1) % p.pts.length) ⟨oM,hp⟩ ⟨oM,oM⟩ (by rw [show (i:Int)+1+p.pts.length=((i+1:Nat):Int)+(p.pts.length:Int) by omega,Int.add_emod_right];omega)) ?_
   refine zb.t (zvs (nth p.pts ((i+p.pts.length - 1) % p.pts.length)) x (nth p.pts ((i+1) % p.pts.length)) pen) ?_;have jl:=ziL (nth p.pts ((i+p.pts.length - 1) % p.pts.length)) x (nth p.pts ((i+1) % p.pts.length)) pen
   refine zb.give [2,5] 1 [.sl zw (yP (nth p.pts ((i+p.pts.length - 1) % p.pts.length)) x (nth p.pts ((i+1) % p.pts.length)) pen),.loc 0 0] [(0,.box 34 [.own 1]),(1,.arr 76 zw 1 (jr p pen++y9 p pen i))] [(0,.box 34 [.own 2]),(2,.arr 76 zw 1 (y8 (jr p pen++y9 p pen i) (yP (nth p.pts ((i+p.pts.length - 1) % p.pts.length)) x (nth p.pts ((i+1) % p.pts.length)) pen)))] (.tup []) (zvD (jr p pen++y9 p pen i) (yP (nth p.pts ((i+p.pts.length - 1) % p.pts.length)) x (nth p.pts ((i+1) % p.pts.length)) pen) oM oM)
    LEs.refl rfl rfl rfl ⟨⟨_,rfl,rfl,rfl⟩,⟨_,rfl,rfl,trivial⟩,trivial⟩ rfl ⟨⟨rfl,rfl⟩,⟨rfl,trivial⟩,trivial⟩ ?_
   refine Ob.mk (by kernel_rfl) ?_;refine Ar.o ?_;refine ⟨i+1,oM,zM [(0,some 0),(1,some 1),(2,some 2),(3,some 3),(4,some 4),(5,some 6)] ⟨rfl,rfl,rfl,rfl,rfl,congrArg (fun q=>some (Mem.arr 76 zw 1 q)) ?_,trivial⟩,by dsimp only;omega⟩;rw [zsf zoz,ej,show zfb p pen i=yP (nth p.pts ((i+p.pts.length - 1) % p.pts.length)) (nth p.pts i) (nth p.pts ((i+1) % p.pts.length)) pen from if_neg kk,hx];exact List.append_assoc ..
theorem vh{r:List Pt}{k:Nat}(h:r.length<=k):(kj r).length<=k:=by have:=zmO r;omega
theorem zso(a b:Pt)(w:Int):(yl a b w).length<=16:=by
 unfold yl
 split
 ·simp
 ·exact vh (by simp)
theorem znh(a:Pt)(w:Int):(vZ a w).length<=16:=by
 unfold vZ
 split
 ·simp
 ·exact vh (by rw [List.length_map];decide)
theorem cap_l(a b:Pt)(w:Int):(zjw a b w).length<=16:=by
 unfold zjw
 split
 ·simp
 ·exact vh (by simp)
theorem zvE(a:Pt)(w:Int):(zdR a w).length<=16:=by
 unfold zdR
 split
 ·simp
 ·exact vh (by simp)
theorem end_l(a b:Pt)(p:Pen):(vD a b p).length<=16:=by
 unfold vD
 split
 ·exact cap_l ..
 ·split
  ·exact znh ..
  ·simp
theorem dot_l(a:Pt)(p:Pen):(zcJ a p).length<=16:=by
 unfold zcJ
 split
 ·exact zvE ..
 ·split
  ·exact znh ..
  ·simp
theorem zcE{r q:List Pt}{k:Nat}(h:r.length<=k)(hq:q∈kT r):q.length<=k:=by rw [yQ hq];exact h
theorem zvF{a v b:Pt}{p:Pen}:∀r∈yP a v b p,r.length<=16:=by
 intro r hr;unfold yP at hr
 split at hr
 ·cases hr
 ·split at hr
  ·exact zcE (znh ..) hr
  ·split at hr
   ·cases hr
   ·refine zcE (vh ?_) hr
    split <;> simp
theorem zvG{p:Pl}{pen:Pen}:∀r∈qa p pen,r.length<=16:=by
 intro r hr;unfold qa at hr
 rcases List.mem_append.1 hr with hr | hr
 ·rcases List.mem_append.1 hr with hr | hr
  ·rw [zaD] at hr
   rcases List.mem_append.1 hr with hr | hr
   ·unfold zj4 at hr;obtain ⟨i,_,hr⟩:=List.mem_flatMap.1 hr;exact zcE (zso ..) hr
   ·split at hr
    ·exact zcE (zso ..) hr
    ·cases hr
  ·rw [zb3] at hr
   split at hr
   ·cases hr
   ·unfold y9 at hr;obtain ⟨i,_,hr⟩:=List.mem_flatMap.1 hr;unfold zfb at hr
    split at hr
    ·cases hr
    ·exact zvF r hr
 ·unfold zbj at hr
  split at hr
  ·exact zcE (dot_l ..) hr
  ·split at hr
   ·rcases List.mem_append.1 hr with hr | hr <;> exact zcE (end_l ..) hr
   ·cases hr
theorem vL(r:List Pt)(rs:List (List Pt)):kN (r::rs)=r.length+kN rs:=by unfold kN;simp
theorem zj6(a b:List (List Pt)):kN (a++b)=kN a+kN b:=by unfold kN;simp
theorem zoC{k:Nat}:∀{rs:List (List Pt)},(∀r∈rs,r.length<=k)->kN rs<=k*rs.length
 | [],_=>Nat.zero_le _
 | r::rs,h=>by
  have h1:=h r (.head _);have h2:=zoC fun q hq=>h q (.tail _ hq)
  rw [vL,List.length_cons,Nat.mul_succ];omega
theorem yM(p:Pl):(zE p).pts.length<=p.pts.length:=by
 have h:=ziJ p.pts;unfold zE;dsimp only
 split
 ·unfold kH
  split
  ·rw [List.length_dropLast];omega
  ·exact h
 ·exact h
theorem ziO{p:Pl}{pen:Pen}(hp:p.pts.length<=4096):kN (qa (zE p) pen)<=200000/\(qa (zE p) pen).length<=10000:=by
 have h1:=zoC (zvG (p:=zE p) (pen:=pen));have h2:=zne (zE p) pen;have h3:=yM p;omega
def rgE(c:List (List Pt)×Int):SV:=.tup [.sl zw c.1,i64 c.2]
theorem qT{c:List (List Pt)×Int}{e:Int}(h:c=([],e)):LE (.tup [.val (.slice none 0 0),i64 e]) (rgE c):=by
 rw [h];exact zS ku .refl
theorem zhh(p:Pl)(pen:Pen)(hp:p.pts.length<=4096):zd Tryz.prog 66 [.agg (plE p),.agg (yi pen)] [] (rgE (kA p pen)) []:=by
 refine zc tok mix Tryz.func66 rfl rfl rfl ?_
 have es:kA p pen=if ¬k8 pen then ([],13) else if ¬∀q∈p.pts,zo q then ([],6) else if 4096 < p.pts.length then ([],5)
  else if ¬vK (qa (zE p) pen) then ([],6) else if 4096 < kN (qa (zE p) pen) then ([],5) else (qa (zE p) pen,0):=rfl
 refine zb.t (zdW pen) ?_;refine Br.mk (fun k=>?_) (fun k=>?_)
 ·have k:¬k8 pen:=k;exact qT (by rw [es,if_pos k])
 have k:k8 pen:=Decidable.not_not.1 k;rw [zV k] at es;refine ⟨List Pt,zw,[p.pts],rfl,Ob.o0 ?_⟩;have c1:kN [p.pts]=p.pts.length:=by rw [vL];rfl
 refine zb.t (zhd [p.pts] oM) ?_;have a1:vK [p.pts]↔∀q∈p.pts,zo q:=⟨fun h=>h _ (.head _),fun h r hr=>by rw [List.mem_singleton.1 hr];exact h⟩;refine Br.mk (fun k2=>?_) (fun k2=>?_)
 ·have k2:¬∀q∈p.pts,zo q:=fun h=>k2 (a1.2 h)
  exact qT (by rw [es,if_pos k2])
 have k2:∀q∈p.pts,zo q:=a1.1 (Decidable.not_not.1 k2);rw [zV k2,if_neg (show ¬4096 < p.pts.length by omega)] at es;intro hl1;refine Br.mk (fun k3=>?_) (fun _=>?_)
 ·have k3:(4096:Int) < p.pts.length:=k3;omega
 have rc:=ziO (pen:=pen) hp;refine Dr.d ?_;refine zb.t (zd9 p hp) ?_;refine zb.t (ztI (zE p) pen (by have:=yM p;omega)) ?_;refine Ob.mk (by kernel_rfl) ?_;refine zb.t (zhd (qa (zE p) pen) oM) ?_;refine Br.mk (fun k4=>?_) (fun k4=>?_)
 ·have k4:¬vK (qa (zE p) pen):=k4;exact qT (by rw [es,if_pos k4])
 have k4:vK (qa (zE p) pen):=Decidable.not_not.1 k4;rw [zV k4] at es;refine Br.mk (fun k5=>?_) (fun k5=>?_)
 ·have k5:(4096:Int) < (if vK (qa (zE p) pen) then (kN (qa (zE p) pen):Int) else 0):=k5;rw [if_pos k4] at k5;exact qT (by rw [es,if_pos oM])
 have k5:¬(4096:Int) < (if vK (qa (zE p) pen) then (kN (qa (zE p) pen):Int) else 0):=k5;rw [if_pos k4] at k5;rw [if_neg (show ¬4096 < kN (qa (zE p) pen) by omega)] at es;rw [es];exact .refl
theorem zwk(p:Pl)(pen:Pen)(hp:p.pts.length<=4096):zd Tryz.prog 69 [.agg (plE p),.agg (yi pen)] [] (rgE (kA p pen)) []:=by
 refine zc tok mix Tryz.func69 rfl rfl rfl ?_
 have es:kA p pen=if ¬k8 pen then ([],13) else if ¬∀q∈p.pts,zo q then ([],6) else if 4096 < p.pts.length then ([],5)
  else if ¬vK (qa (zE p) pen) then ([],6) else if 4096 < kN (qa (zE p) pen) then ([],5) else (qa (zE p) pen,0):=rfl
 refine zb.t (zta pen) ?_;refine Br.mk (fun k=>?_) (fun k=>?_)
 ·have k:¬k8 pen:=k;exact qT (by rw [es,if_pos k])
 have k:k8 pen:=Decidable.not_not.1 k;rw [zV k] at es;refine zb.t (zwv p.pts) ?_;refine Br.mk (fun k2=>?_) (fun k2=>?_)
 ·have k2:¬∀q∈p.pts,zo q:=k2;exact qT (by rw [es,if_pos k2])
 have k2:∀q∈p.pts,zo q:=Decidable.not_not.1 k2;rw [zV k2,if_neg (show ¬4096 < p.pts.length by omega)] at es;intro hl1;refine Br.mk (fun k3=>?_) (fun _=>?_)
 ·have k3:(4096:Int) < p.pts.length:=k3;omega
 have rc:=ziO (pen:=pen) hp;refine Dr.d ?_;refine zb.t (zwi p hp) ?_;refine zb.t (zwV (zE p) pen (by have:=yM p;omega)) ?_;refine Ob.mk (by kernel_rfl) ?_;refine ⟨Nat,fun i=>⟨[(6,.sl zw (qa (zE p) pen)),(7,i64 (i:Int))],[],0,39,0⟩,fun i=>i<=(qa (zE p) pen).length/\vK ((qa (zE p) pen).take i),fun i=>(qa (zE p) pen).length - i,0,?_,?_,?_⟩
 ·exact ⟨Nat.zero_le _,fun r hr=>by cases hr⟩
 ·exact zh []
 rintro i ⟨h1,h2⟩
 intro hl2;refine Br.mk (fun g=>?_) (fun g=>?_)
 ·have g:(i:Int) < (qa (zE p) pen).length:=g;refine Ob.o ?_;intro x hx;have hx:(qa (zE p) pen)[i]? =some x:=hx;refine zb.t (zwv x) ?_;refine Br.mk (fun k4=>?_) (fun k4=>?_)
  ·have k4:¬vK (qa (zE p) pen):=fun h=>k4 (h x (List.mem_of_getElem? hx))
   exact qT (by rw [es,if_pos k4])
  have k4:=Decidable.not_not.1 k4;refine Ar.o ?_;exact ⟨i+1,⟨oM,zc6 hx h2 k4⟩,zh [],by dsimp only;omega⟩
 have g:¬(i:Int) < (qa (zE p) pen).length:=g;rw [List.take_of_length_le oM] at h2;rw [zV h2] at es;refine zb.t (zws (qa (zE p) pen) oM) ?_;refine Br.mk (fun k5=>?_) (fun k5=>?_)
 ·have k5:(4096:Int) < kN (qa (zE p) pen):=k5;exact qT (by rw [es,if_pos oM])
 have k5:¬(4096:Int) < kN (qa (zE p) pen):=k5;rw [if_neg (show ¬4096 < kN (qa (zE p) pen) by omega)] at es;rw [es];exact .refl
end Go.Gs
