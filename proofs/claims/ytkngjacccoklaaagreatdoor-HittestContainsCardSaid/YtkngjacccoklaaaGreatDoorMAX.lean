/- The rings of a stroke, za the second text has them. -/
import Derived.Test.YtkngjacccoklaaaGreatDoorMA
import Derived.Test.YtkngjacccoklaaaGreatDoorMAW
import Derived.Test.YtkngjacccoklaaaGreatDoorMAS
set_option maxRecDepth 100000
set_option maxHeartbeats 8000000
set_option linter.all false
namespace Go.Gs
open Go.Proofs
def vv(r:List Pt):(kN r).length<=1:=by unfold kN;split <;> simp
def zdW(l:List Pt)(w:Int)(n:Nat):List (List Pt):=(List.range n).flatMap λi=>kN (jT (nth l i) (nth l (i+1)) w)
def zhR(l:List Pt)(w:Int)(n:Nat):zdW l w (n+1)=zdW l w n++kN (jT (nth l n) (nth l (n+1)) w):=by
 unfold zdW;rw[Kx,Qk,Jk]
def zqO(l:List Pt)(w:Int)(n:Nat):(zdW l w n).length<=n:=by
 induction n with
 |zero=>exact Xk 0
 |succ n ih=>
  rw[zhR,Xq];have:=vv (jT (nth l n) (nth l (n+1)) w);omega
def vS(p:Pl)(pen:Pen):kX p pen=zdW p.pts pen.w (p.pts.length-1)++
  (if p.cl=true/\1<p.pts.length then kN (jT (nth p.pts (p.pts.length-1)) (nth p.pts 0) pen.w) else[]):=rfl
def zfJ(p:Pl)(pen:Pen):(kX p pen).length<=p.pts.length+1:=by
 rw[vS,Xq];have h1:=zqO p.pts pen.w (p.pts.length-1);have h2:=vv (jT (nth p.pts (p.pts.length-1)) (nth p.pts 0) pen.w)
 split
 ·omega
 rw[Xr];omega
def zyK(p:Pl)(pen:Pen)(hp:p.pts.length<=4096):CG0 298 [.agg (plE p),.agg (jb pen)] [] (.own 0) [(0,.arr 127 zk 1 (kX p pen))]:=by
 refine qE tok mix Tryz.func298 rfl rfl rfl<|⟨List Pt,zk,[],rfl,Ob.o2 ?_⟩;intro hl1;refine⟨Nat,λi=>⟨[(2,.loc 0 0),(3,.loc 1 0),(5,.own 2),(6,i64 (p.pts.length:Int)),(7,i64 (i:Int))],[(0,.box 143 [.sl ptE p.pts,pr (p.cl=true)]),(1,.box 43 (jb pen)),(2,.arr 127 zk 1 (zdW p.pts pen.w i))],3,56,0⟩,λi=>i<=p.pts.length-1,λi=>p.pts.length-i,0,?_,?_,?_⟩
 ·exact Xh _
 ·exact zf [0,1,2]
 rintro i hi
 have bl:=zqO p.pts pen.w i;refine Ar.o<|Br.mk (λg=>?_) (λg=>?_)
 ·have g:(i:Int)+1<p.pts.length:=g;refine Dr.d<|Ob.o ?_;intro x hx;have hx:=qn (show p.pts[i]?=some x from hx);refine Ar.o<|Ob.o ?_;intro y hy;have hy:=qn (show p.pts[i+1]?=some y from hy);refine zb.t (zx2 x y pen.w) ?_
  refine zb.give [2] 1 [.own 0,.sl ptE (jT x y pen.w)] [(0,.arr 127 zk 1 (zdW p.pts pen.w i))] [(1,.arr 127 zk 1 (zdW p.pts pen.w i++kN (jT x y pen.w)))] (.own 1) (zhQ (zdW p.pts pen.w i) (jT x y pen.w) oM)
   LEs.refl rfl rfl rfl ⟨⟨_,rfl,rfl,trivial⟩,trivial⟩ rfl ⟨⟨rfl,trivial⟩,trivial⟩ ?_
  refine Ob.mk (by kernel_rfl)<|Ar.o ?_;refine⟨i+1,oM,zu [0,1,3] ⟨rfl,rfl,Xg (λq=>some (Mem.arr 127 zk 1 q)) (by rw[zhR,←hx,←hy]),trivial⟩,by dsimp only;omega⟩
 have g:¬(i:Int)+1<p.pts.length:=g;have ei:i=p.pts.length-1:=oM
 have no:¬(p.cl=true/\1<p.pts.length)->∃k,za3 k (.own 2) (.own 0)/\zwK [(0,.box 143 [.sl ptE p.pts,pr (p.cl=true)]),(1,.box 43 (jb pen)),(2,.arr 127 zk 1 (zdW p.pts pen.w i))] k (.arr 127 zk 1 (kX p pen)):=λh=>by
  refine⟨some 2,.own _ rfl,Xg (λq=>some (Mem.arr 127 zk 1 q)) ?_,λ_ _=>rfl⟩;rw[vS,Xc h,ei,XE]
 refine⟨λc=>?_,λc=>no λh=>c h.1⟩;refine⟨λc2=>?_,λc2=>no λh=>c2 (show(1:Int)<p.pts.length by have:=h.2;omega)⟩
 have c:p.cl=true:=c;have c2:(1:Int)<p.pts.length:=c2;refine Dr.d<|Ar.o<|Ob.o ?_;intro x hx;have hx:=qn (show p.pts[((p.pts.length:Int)-1).toNat]?=some x from hx);refine Ob.o ?_;intro y hy;have hy:=qn (show p.pts[0]?=some y from hy);refine zb.t (zx2 x y pen.w) ?_
 refine zb.give [2] 1 [.own 0,.sl ptE (jT x y pen.w)] [(0,.arr 127 zk 1 (zdW p.pts pen.w i))] [(1,.arr 127 zk 1 (zdW p.pts pen.w i++kN (jT x y pen.w)))] (.own 1) (zhQ (zdW p.pts pen.w i) (jT x y pen.w) oM)
  LEs.refl rfl rfl rfl ⟨⟨_,rfl,rfl,trivial⟩,trivial⟩ rfl ⟨⟨rfl,trivial⟩,trivial⟩ ?_
 refine Ob.mk (by kernel_rfl)<|⟨some 3,.own _ rfl,Xg (λq=>some (Mem.arr 127 zk 1 q)) ?_,λ_ _=>rfl⟩;rw[vS,Xe ⟨c,oM⟩,ei,hx,hy,show((p.pts.length:Int)-1).toNat=p.pts.length-1 by omega]
def zfe(p:Pl)(pen:Pen)(i:Nat):List (List Pt):=if¬p.cl=true/\(i=0∨i=p.pts.length-1) then[]
  else qY (nth p.pts ((i+p.pts.length-1)%p.pts.length)) (nth p.pts i) (nth p.pts ((i+1)%p.pts.length)) pen
def yd(p:Pl)(pen:Pen)(n:Nat):List (List Pt):=(List.range n).flatMap (zfe p pen)
def zfK(p:Pl)(pen:Pen)(n:Nat):yd p pen (n+1)=yd p pen n++zfe p pen n:=by
 unfold yd;rw[Kx,Qk,Jk]
def zch(p:Pl)(pen:Pen):jc p pen=if p.pts.length<=1 then[] else yd p pen p.pts.length:=rfl
def zhS(a v b:Pt)(p:Pen):(qY a v b p).length<=1:=by
 unfold qY
 split
 ·decide
 split
 ·exact vv _
 split
 ·decide
 exact vv _
def zvC(p:Pl)(pen:Pen)(i:Nat):(zfe p pen i).length<=1:=by
 unfold zfe
 split
 ·decide
 exact zhS ..
def zhT(p:Pl)(pen:Pen)(n:Nat):(yd p pen n).length<=n:=by
 induction n with
 |zero=>exact Xk 0
 |succ n ih=>
  rw[zfK,Xq];have:=zvC p pen n;omega
def zmO(p:Pl)(pen:Pen):(jc p pen).length<=p.pts.length:=by
 rw[zch]
 split
 ·exact Xh _
 exact zhT ..
def zvD{out rs:List (List Pt)}{i:Nat}{x:List Pt}(h:rs[i]?=some x):ut out (rs.take (i+1))=ut out (rs.take i)++kN x:=by
 rw[zeG h];unfold kN
 cases x with
 |nil=>simp
 |cons a b=>simp
def zA0(p:Pl)(pen:Pen)(hp:p.pts.length<=4096):CG0 299 [.agg (plE p),.agg (jb pen)] [] (.sl zk (jc p pen)) []:=by
 refine zc Tryz.func299 ?_;refine⟨List Pt,zk,[],rfl,Ob.o2 ?_⟩;intro hl1;refine⟨Nat,λi=>⟨[(2,.loc 0 0),(3,.loc 1 0),(5,.own 2),(6,i64 (p.pts.length:Int)),(7,i64 (i:Int))],[(0,.box 143 [.sl ptE p.pts,pr (p.cl=true)]),(1,.box 43 (jb pen)),(2,.arr 127 zk 1 (yd p pen i))],3,74,0⟩,λi=>i<=p.pts.length/\(p.pts.length<=1->i=0),λi=>p.pts.length-i,0,?_,?_,?_⟩
 ·exact⟨Xh _,λ_=>rfl⟩
 ·exact zf [0,1,2]
 rintro i ⟨hi,h1⟩
 have bl:=zhT p pen i;have e:=zfK p pen i
 have over:(p.pts.length<=i∨p.pts.length<=1)->LE (.sl zk (yd p pen i)) (.sl zk (jc p pen)):=λh=>by
  refine z0 ?_;rw[zch]
  split
  ·rename_i k;rw[h1 k];rfl
  rw[show i=p.pts.length by omega]
 refine⟨λg=>?_,λg=>over (.inl (by have g:¬(i:Int)<p.pts.length:=g;omega))⟩;have g:(i:Int)<p.pts.length:=g;refine⟨λg2=>?_,λg2=>over (.inr (by have g2:¬(1:Int)<p.pts.length:=g2;omega))⟩;have g2:(1:Int)<p.pts.length:=g2
 have skip:¬p.cl=true->i=0∨i=p.pts.length-1->yd p pen i=yd p pen (i+1):=λh k=>by
  rw[e,show zfe p pen i=[] from Xe ⟨h,k⟩,XE]
 refine⟨λc=>Br.mk (λc1=>?A) (λc1=>Ar.fit oM (Br.mk (λc2=>?B) (λc2=>?C))),λc=>?D⟩
 case A=>
  have c1:(i:Int)=0:=c1;exact Ar.o<|⟨i+1,⟨oM,λ_=>by omega⟩,zu [0,1,2] ⟨rfl,rfl,Xg (λq=>some (Mem.arr 127 zk 1 q)) (skip c (.inl oM)),trivial⟩,by dsimp only;omega⟩
 case B=>
  have c2:(i:Int)=p.pts.length-1:=c2;exact Ar.o<|⟨i+1,⟨oM,λ_=>by omega⟩,zu [0,1,2] ⟨rfl,rfl,Xg (λq=>some (Mem.arr 127 zk 1 q)) (skip c (.inr oM)),trivial⟩,by dsimp only;omega⟩
 case' C=>
  have c1:¬(i:Int)=0:=c1;have c2:¬(i:Int)=p.pts.length-1:=c2;replace c:¬(¬p.cl=true/\(i=0∨i=p.pts.length-1)):=λh=>oM
 case' D=>replace c:¬(¬p.cl=true/\(i=0∨i=p.pts.length-1)):=λh=>c h.1
 all_goals
  have m1:=Kb ((i:Int)+p.pts.length-1) (show(p.pts.length:Int)≠0 by omega);have m2:=X3 ((i:Int)+p.pts.length-1) (show 0<(p.pts.length:Int) by omega);have m3:=Kb ((i:Int)+1) (show(p.pts.length:Int)≠0 by omega);have m4:=X3 ((i:Int)+1) (show 0<(p.pts.length:Int) by omega)
  have e1:(((i:Int)+p.pts.length-1)%p.pts.length).toNat=(i+p.pts.length-1)%p.pts.length:=by
   rw[show(i:Int)+p.pts.length-1=((i+p.pts.length-1:Nat):Int) by omega];omega
  have e2:(((i:Int)+1)%p.pts.length).toNat=(i+1)%p.pts.length:=by
   rw[show(i:Int)+1=((i+1:Nat):Int) by omega];omega
  refine Dr.d ?_;(iterate 2 refine Ar.o ?_);refine Dv.pos ⟨oM,oM⟩<|Ob.mk ⟨m1,m2⟩ ?_;intro x hx;have hx:=qn (show p.pts[(((i:Int)+p.pts.length-1)%p.pts.length).toNat]?=some x from hx);rw[e1]at hx;refine Ob.o ?_;intro y hy;have hy:=qn (show p.pts[i]?=some y from hy);refine Ar.o<|Dv.pos ⟨oM,oM⟩<|Ob.mk ⟨m3,m4⟩ ?_;intro z hz;have hz:=qn (show p.pts[(((i:Int)+1)%p.pts.length).toNat]?=some z from hz);rw[e2]at hz;refine zb.t (zDS x y z pen)<|Ob.mk (by kernel_rfl) ?_;have jl:=zhS x y z pen
  refine⟨Nat,λj=>⟨[(2,.loc 0 0),(3,.loc 1 0),(5,.own 2),(6,i64 (p.pts.length:Int)),(7,i64 (i:Int)),(8,.sl zk (qY x y z pen)),(9,i64 (j:Int))],[(0,.box 143 [.sl ptE p.pts,pr (p.cl=true)]),(1,.box 43 (jb pen)),(2,.arr 127 zk 1 (ut (yd p pen i) ((qY x y z pen).take j)))],3,74,0⟩,λj=>j<=(qY x y z pen).length,λj=>(qY x y z pen).length-j,0,?_,?_,?_⟩
  ·exact Xh _
  ·exact zu [0,1,2] ⟨rfl,rfl,Xg (λq=>some (Mem.arr 127 zk 1 q)) (XE (yd p pen i)).symm,trivial⟩
  rintro j hj
  have pl:=zgN (yd p pen i) ((qY x y z pen).take j);rw[Xo]at pl;intro hl4;refine⟨λk=>?_,λk=>?_⟩
  ·have k:(j:Int)<(qY x y z pen).length:=k;refine Ob.o ?_;intro r hr;have hr:=zvD (out:=yd p pen i) (show(qY x y z pen)[j]?=some r from hr)
   refine zb.give [2] 1 [.own 0,.sl ptE r] [(0,.arr 127 zk 1 (ut (yd p pen i) ((qY x y z pen).take j)))] [(1,.arr 127 zk 1 (ut (yd p pen i) ((qY x y z pen).take j)++kN r))] (.own 1) (zhQ (ut (yd p pen i) ((qY x y z pen).take j)) r oM)
    LEs.refl rfl rfl rfl ⟨⟨_,rfl,rfl,trivial⟩,trivial⟩ rfl ⟨⟨rfl,trivial⟩,trivial⟩ ?_
   refine Ar.o ?_;refine⟨j+1,oM,zu [0,1,3] ⟨rfl,rfl,Xg (λq=>some (Mem.arr 127 zk 1 q)) hr.symm,trivial⟩,by dsimp only;omega⟩
  have k:¬(j:Int)<(qY x y z pen).length:=k;refine Ar.o<|⟨i+1,⟨oM,λ_=>by omega⟩,zu [0,1,2] ⟨rfl,rfl,Xg (λq=>some (Mem.arr 127 zk 1 q)) ?_,trivial⟩,by dsimp only;omega⟩;rw[Xi oM,zqL zox,e,show zfe p pen i=qY x y z pen by rw[hx,hy,hz];exact Xc c]
variable{p:Pl}{pen:Pen}
def zqP(h:p.pts.length=1):zdP p pen=kN (zbh (nth p.pts 0) pen):=by unfold zdP;rw[Xe h]
def zqQ(h:1<p.pts.length)(k:¬p.cl=true):zdP p pen=kN (y4 (nth p.pts 1) (nth p.pts 0) pen)++kN (y4 (nth p.pts (p.pts.length-2)) (nth p.pts (p.pts.length-1)) pen):=by
 unfold zdP;rw[Xc (show¬p.pts.length=1 by omega),Xe ⟨h,k⟩]
def zoy(h:¬p.pts.length=1)(k:¬(1<p.pts.length/\¬p.cl=true)):zdP p pen=[]:=by
 unfold zdP;rw[Xc h,Xc k]
def zyL(p:Pl)(pen:Pen):(zdP p pen).length<=2:=by
 unfold zdP
 split
 ·have:=vv (zbh (nth p.pts 0) pen);omega
 split
 ·have h1:=vv (y4 (nth p.pts 1) (nth p.pts 0) pen);have h2:=vv (y4 (nth p.pts (p.pts.length-2)) (nth p.pts (p.pts.length-1)) pen);rw[Xq];omega
 decide
def zsw(p:Pl)(pen:Pen):(ku p pen).length<=2*p.pts.length+3:=by
 unfold ku;rw[Xq,Xq];have h1:=zfJ p pen;have h2:=zmO p pen;have h3:=zyL p pen;omega
def zmP(h:¬1<p.pts.length):kX p pen=zdW p.pts pen.w (p.pts.length-1):=by
 rw[vS,Xc (λk=>h k.2),XE]
def zqR(h:p.pts.length<=1):jc p pen=[]:=by rw[zch,Xe h]
def zsx(h:p.pts.length=0):ku p pen=[]:=by
 unfold ku;rw[zmP oM,zqR oM,zoy oM oM,h];rfl
def zsy(h:p.pts.length=1):ku p pen=kN (zbh (nth p.pts 0) pen):=by
 unfold ku;rw[zmP oM,zqR oM,zqP h,h];rfl
def zvE(p:Pl)(pen:Pen)(hp:p.pts.length<=4096):CG0 225 [.agg (plE p),.agg (jb pen)] [] (.sl zk (ku p pen)) []:=by
 refine zc Tryz.func225 ?_;refine zb.fresh _ _ (zyK p pen hp) rfl (λ_ _=>rfl) (.inl rfl)<|zb.t (zA0 p pen hp) ?_;have lb:=zfJ p pen;have lj:=zmO p pen;refine⟨Nat,λi=>⟨[(2,.loc 0 0),(3,.loc 1 0),(5,.own 2),(6,.sl zk (jc p pen)),(7,i64 (i:Int))],[(0,.box 143 [.sl ptE p.pts,pr (p.cl=true)]),(1,.box 43 (jb pen)),(2,.arr 127 zk 1 (kX p pen++(jc p pen).take i))],3,77,0⟩,λi=>i<=(jc p pen).length,λi=>(jc p pen).length-i,0,?_,?_,?_⟩
 ·exact Xh _
 ·exact zu [0,1,2] ⟨rfl,rfl,Xg (λq=>some (Mem.arr 127 zk 1 q)) (XE (kX p pen)).symm,trivial⟩
 rintro i hi
 intro hl1;refine⟨λg=>?_,λg=>?_⟩
 ·have g:(i:Int)<(jc p pen).length:=g;refine Ob.o ?_;intro x hx;have hx:(jc p pen)[i]?=some x:=hx;refine⟨List Pt,zk,[x],rfl,Ob.o0 ?_⟩;refine⟨[x],rfl,Ob.o24 ?_⟩;refine Ar.o ?_;refine⟨i+1,oM,zu [0,1,4] ⟨rfl,rfl,Xg (λq=>some (Mem.arr 127 zk 1 q)) (by rw[Xl,hx];exact XY ..),trivial⟩,by dsimp only;omega⟩
 have g:¬(i:Int)<(jc p pen).length:=g;have et:(jc p pen).take i=jc p pen:=Xi oM;have ll:(kX p pen++(jc p pen).take i).length<=100000:=by rw[et,Xq];omega
 intro hl2;refine⟨λn1=>?_,λn1=>?_⟩
 ·have n1:(p.pts.length:Int)=1:=n1;refine Dr.d<|Ob.o ?_;intro x hx;have hx:=qn (show p.pts[0]?=some x from hx);refine zb.t (zyG x pen) ?_
  refine zb.give [2] 1 [.own 0,.sl ptE (zbh x pen)] [(0,.arr 127 zk 1 (kX p pen++(jc p pen).take i))] [(1,.arr 127 zk 1 (kX p pen++(jc p pen).take i++kN (zbh x pen)))] (.own 1) (zhQ (kX p pen++(jc p pen).take i) (zbh x pen) ll)
   LEs.refl rfl rfl rfl ⟨⟨_,rfl,rfl,trivial⟩,trivial⟩ rfl ⟨⟨rfl,trivial⟩,trivial⟩ ?_
  refine Ob.mk (by kernel_rfl)<|⟨λk=>absurd k oM,λ_=>?_⟩;refine z0 ?_;unfold ku;rw[et,zqP oM,hx]
 have n1:¬(p.pts.length:Int)=1:=n1
 have no:¬(1<p.pts.length/\¬p.cl=true)->LE (.sl zk (kX p pen++(jc p pen).take i)) (.sl zk (ku p pen)):=λh=>by
  refine z0 ?_;unfold ku;rw[et,zoy oM h,XE]
 refine⟨λk=>?_,λk=>no λh=>by have k:¬(1:Int)<p.pts.length:=k;omega⟩;have k:(1:Int)<p.pts.length:=k;refine⟨λc=>?_,λc=>no λh=>c h.2⟩;have c:¬p.cl=true:=c;refine Dr.d<|Ob.o ?_;intro x hx;have hx:=qn (show p.pts[1]?=some x from hx);refine Ob.o ?_;intro y hy;have hy:=qn (show p.pts[0]?=some y from hy);refine zb.t (zyF x y pen) ?_;have s1:=vv (y4 x y pen)
 refine zb.give [2] 1 [.own 0,.sl ptE (y4 x y pen)] [(0,.arr 127 zk 1 (kX p pen++(jc p pen).take i))] [(1,.arr 127 zk 1 (kX p pen++(jc p pen).take i++kN (y4 x y pen)))] (.own 1) (zhQ (kX p pen++(jc p pen).take i) (y4 x y pen) ll)
  LEs.refl rfl rfl rfl ⟨⟨_,rfl,rfl,trivial⟩,trivial⟩ rfl ⟨⟨rfl,trivial⟩,trivial⟩ ?_
 refine Ob.mk (by kernel_rfl)<|Dr.d<|Ar.o<|Ob.o ?_;intro u hu;have hu:=qn (show p.pts[((p.pts.length:Int)-2).toNat]?=some u from hu);rw[show((p.pts.length:Int)-2).toNat=p.pts.length-2 by omega]at hu;refine Ar.o<|Ob.o ?_;intro v hv;have hv:=qn (show p.pts[((p.pts.length:Int)-1).toNat]?=some v from hv);rw[show((p.pts.length:Int)-1).toNat=p.pts.length-1 by omega]at hv;refine zb.t (zyF u v pen) ?_
 refine zb.give [3] 1 [.own 0,.sl ptE (y4 u v pen)] [(0,.arr 127 zk 1 (kX p pen++(jc p pen).take i++kN (y4 x y pen)))] [(1,.arr 127 zk 1 (kX p pen++(jc p pen).take i++kN (y4 x y pen)++kN (y4 u v pen)))] (.own 1) (zhQ (kX p pen++(jc p pen).take i++kN (y4 x y pen)) (y4 u v pen) (by rw[et,Xq,Xq];omega))
  LEs.refl rfl rfl rfl ⟨⟨_,rfl,rfl,trivial⟩,trivial⟩ rfl ⟨⟨rfl,trivial⟩,trivial⟩ ?_
 refine Ob.mk (by kernel_rfl)<|z0 ?_;unfold ku;rw[et,zqQ oM c,hx,hy,hu,hv];exact XY ..
def zkS(p:Pl)(pen:Pen)(n:Nat):List (List Pt):=(List.range n).flatMap λi=>kN (jT (nth p.pts i) (nth p.pts ((i+1)%p.pts.length)) pen.w)
def zeH(p:Pl)(pen:Pen)(n:Nat):zkS p pen (n+1)=zkS p pen n++kN (jT (nth p.pts n) (nth p.pts ((n+1)%p.pts.length)) pen.w):=by
 unfold zkS;rw[Kx,Qk,Jk]
def zoz(p:Pl)(pen:Pen):∀n,n<p.pts.length->zkS p pen n=zdW p.pts pen.w n
 |0,_=>rfl
 |n+1,h=>by rw[zeH,zhR,zoz p pen n oM,Xy h]
def zyM(p:Pl)(pen:Pen)(n:Nat):(zkS p pen n).length<=n:=by
 induction n with
 |zero=>exact Xk 0
 |succ n ih=>
  rw[zeH,Xq];have:=vv (jT (nth p.pts n) (nth p.pts ((n+1)%p.pts.length)) pen.w);omega
def zdX(p:Pl):Nat:=if p.cl=true then p.pts.length else p.pts.length-1
def zqS(h:p.cl=true):zdX p=p.pts.length:=Xe h
def zt2(h:¬p.cl=true):zdX p=p.pts.length-1:=Xc h
def zA1(p:Pl):zdX p<=p.pts.length:=by unfold zdX;split <;> omega
def zyN(h:1<p.pts.length):zkS p pen (zdX p)=kX p pen:=by
 rw[vS]
 by_cases c:p.cl=true
 ·rw[zqS c,Xe ⟨c,h⟩];obtain⟨m,hm⟩:∃m,p.pts.length=m+1:=⟨p.pts.length-1,oM⟩;rw[hm,zeH,zoz p pen m oM,hm,Ya];rfl
 rw[zt2 c,Xc (λh=>c h.1),zoz p pen _ oM,XE]
def zA2(p:Pl)(pen:Pen)(hp:p.pts.length<=4096):CG0 274 [.agg (plE p),.agg (jb pen)] [] (.sl zk (ku p pen)) []:=by
 refine zc Tryz.func274 ?_;intro hl1;refine⟨λn0=>?_,λn0=>?_⟩
 ·have n0:(p.pts.length:Int)=0:=n0;rw[zsx oM];exact zD
 have n0:¬(p.pts.length:Int)=0:=n0;refine⟨λn1=>?_,λn1=>?_⟩
 ·have n1:(p.pts.length:Int)=1:=n1;refine Dr.d<|Ob.o ?_;intro x hx;have hx:=qn (show p.pts[0]?=some x from hx);refine zb.t (zyE x pen)<|⟨List Pt,zk,[zbh x pen],rfl,Ob.o0 ?_⟩
  refine zb.give [2,5] 1 [.own 1,.loc 0 0] [(0,.box 67 [.val (.slice none 0 0)]),(1,.arr 127 zk 1 [zbh x pen])] [(0,.box 67 [.own 2]),(2,.arr 127 zk 1 (ut [] [zbh x pen]))] (.tup []) (zD2 [zbh x pen] (by simp))
   LEs.refl rfl rfl rfl ⟨⟨_,rfl,rfl,rfl⟩,⟨_,rfl,rfl,trivial⟩,trivial⟩ rfl ⟨⟨rfl,rfl⟩,⟨rfl,trivial⟩,trivial⟩ ?_
  refine Ob.mk (by kernel_rfl)<|z0 ?_;rw[zsy oM,←hx,zqK];rfl
 have n1:¬(p.pts.length:Int)=1:=n1;refine Ar.o ?_;have h2:1<p.pts.length:=oM;refine⟨λc=>?C,λc=>?D⟩
 case' C=>
  have c:p.cl=true:=c;have hL:=zqS c
 case' D=>
  have c:¬p.cl=true:=c;have hL:=zt2 c
 all_goals
  have hle:=zA1 p;refine⟨Nat,λi=>⟨[(2,.loc 0 0),(3,.loc 1 0),(5,.loc 2 0),(6,.fn 342 [.loc 2 0]),(7,.loc 3 0),(8,.loc 4 0),(9,.fn 344 [.loc 3 0,.loc 4 0]),(39,i64 (zdX p:Int)),(40,i64 (i:Int))],[(0,.box 143 [.sl ptE p.pts,pr (p.cl=true)]),(1,.box 43 (jb pen)),(2,.box 67 [.own 5]),(3,.box 127 [.sl ptE p.pts]),(4,.box 3 [i64 (p.pts.length:Int)]),(5,.arr 127 zk 1 (zkS p pen i))],6,121,0⟩,λi=>i<=zdX p,λi=>zdX p-i,0,?_,?_,?_⟩
  ·exact Xh _
  ·exact jh [(0,some 0),(1,some 1),(2,some 2),(3,some 3),(4,some 4),(5,none)] ⟨rfl,rfl,rfl,rfl,rfl,rfl,rfl,Xg (λn=>some (i64 n)) oM,rfl,trivial⟩ ⟨rfl,rfl,rfl,rfl,rfl,rfl,trivial⟩
  rintro i hi
  have bl:=zyM p pen i;refine⟨λg=>?_,λg=>?_⟩
  ·have g:(i:Int)<zdX p:=g;refine Dr.d<|Ob.o ?_;intro x hx;have hx:=qn (show p.pts[i]?=some x from hx);refine Ar.o<|zb.t (zsv p.pts ((i:Int)+1) ((i+1)%p.pts.length) ⟨oM,hp⟩ ⟨oM,oM⟩ (by rw[show(i:Int)+1+p.pts.length=((i+1:Nat):Int)+(p.pts.length:Int) by omega,Int.add_emod_right];omega))<|zb.t (zDH x (nth p.pts ((i+1)%p.pts.length)) pen.w)<|⟨List Pt,zk,[jT x (nth p.pts ((i+1)%p.pts.length)) pen.w],rfl,Ob.o0 ?_⟩
   refine zb.give [2,5,6] 1 [.own 2,.loc 0 0] [(0,.box 67 [.own 1]),(1,.arr 127 zk 1 (zkS p pen i)),(2,.arr 127 zk 1 [jT x (nth p.pts ((i+1)%p.pts.length)) pen.w])] [(0,.box 67 [.own 3]),(3,.arr 127 zk 1 (ut (zkS p pen i) [jT x (nth p.pts ((i+1)%p.pts.length)) pen.w]))] (.tup []) (zyI (zkS p pen i) [jT x (nth p.pts ((i+1)%p.pts.length)) pen.w] oM (by simp))
      LEs.refl rfl rfl rfl ⟨⟨_,rfl,rfl,rfl⟩,⟨_,rfl,rfl,trivial⟩,⟨_,rfl,rfl,trivial⟩,trivial⟩ rfl ⟨⟨rfl,rfl⟩,⟨rfl,trivial⟩,trivial⟩ ?_
   refine Ob.mk (by kernel_rfl)<|Ar.o ?_;refine⟨i+1,oM,zu [0,1,2,3,4,7] ⟨rfl,rfl,rfl,rfl,rfl,Xg (λq=>some (Mem.arr 127 zk 1 q)) (by rw[zeH,zqK,hx]),trivial⟩,by dsimp only;omega⟩
  have g:¬(i:Int)<zdX p:=g;have eb:zkS p pen i=kX p pen:=by rw[←zyN h2,show i=zdX p by omega]
  refine⟨Nat,λi=>⟨[(2,.loc 0 0),(3,.loc 1 0),(5,.loc 2 0),(6,.fn 342 [.loc 2 0]),(7,.loc 3 0),(8,.loc 4 0),(9,.fn 344 [.loc 3 0,.loc 4 0]),(58,i64 (p.pts.length:Int)),(59,i64 (i:Int))],[(0,.box 143 [.sl ptE p.pts,pr (p.cl=true)]),(1,.box 43 (jb pen)),(2,.box 67 [.own 5]),(3,.box 127 [.sl ptE p.pts]),(4,.box 3 [i64 (p.pts.length:Int)]),(5,.arr 127 zk 1 (kX p pen++yd p pen i))],6,121,0⟩,λi=>i<=p.pts.length,λi=>p.pts.length-i,0,?_,?_,?_⟩
  ·exact Xh _
  ·exact zu [0,1,2,3,4,5] ⟨rfl,rfl,rfl,rfl,rfl,Xg (λq=>some (Mem.arr 127 zk 1 q)) (by rw[eb];exact(XE _).symm),trivial⟩
  rintro i hi
  have lb:=zfJ p pen;have lj:=zhT p pen i;have ll:(kX p pen++yd p pen i).length<=50000:=by rw[Xq];omega
  have ej:=zfK p pen i;refine⟨λg=>?_,λg=>?_⟩;rotate_left
  ·have g:¬(i:Int)<p.pts.length:=g;have ei:yd p pen i=jc p pen:=by rw[zch,Xc oM,show i=p.pts.length by omega]
   refine⟨λo=>?_,λo=>?_⟩;rotate_left
   ·refine z0 ?_;unfold ku;rw[ei,zoy oM (λh=>o h.2),XE]
   have o:¬p.cl=true:=o;refine Dr.d<|Ob.o ?_;intro x hx;have hx:=qn (show p.pts[1]?=some x from hx);refine Ob.o ?_;intro y hy;have hy:=qn (show p.pts[0]?=some y from hy);refine zb.t (zCy x y pen)<|Ar.o<|Ob.o ?_;intro u hu;have hu:=qn (show p.pts[((p.pts.length:Int)-2).toNat]?=some u from hu);rw[show((p.pts.length:Int)-2).toNat=p.pts.length-2 by omega]at hu;refine Ar.o<|Ob.o ?_;intro v hv;have hv:=qn (show p.pts[((p.pts.length:Int)-1).toNat]?=some v from hv)
   rw[show((p.pts.length:Int)-1).toNat=p.pts.length-1 by omega]at hv;refine zb.t (zCy u v pen)<|⟨List Pt,zk,[y4 x y pen,y4 u v pen],rfl,Ob.o0 ?_⟩
   refine zb.give [2,5,6] 1 [.own 2,.loc 0 0] [(0,.box 67 [.own 1]),(1,.arr 127 zk 1 (kX p pen++yd p pen i)),(2,.arr 127 zk 1 [y4 x y pen,y4 u v pen])] [(0,.box 67 [.own 3]),(3,.arr 127 zk 1 (ut (kX p pen++yd p pen i) [y4 x y pen,y4 u v pen]))] (.tup []) (zyI (kX p pen++yd p pen i) [y4 x y pen,y4 u v pen] oM (by simp))
      LEs.refl rfl rfl rfl ⟨⟨_,rfl,rfl,rfl⟩,⟨_,rfl,rfl,trivial⟩,⟨_,rfl,rfl,trivial⟩,trivial⟩ rfl ⟨⟨rfl,rfl⟩,⟨rfl,trivial⟩,trivial⟩ ?_
   refine Ob.mk (by kernel_rfl)<|z0 ?_;unfold ku;rw[zyH,ei,zqQ h2 o,hx,hy,hu,hv];exact XY ..
  have g:(i:Int)<p.pts.length:=g
  have skip:¬p.cl=true->i=0∨i=p.pts.length-1->kX p pen++yd p pen i=kX p pen++yd p pen (i+1):=λh k=>by
   rw[ej,show zfe p pen i=[] from Xe ⟨h,k⟩,XE]
  refine⟨λk=>?_,λk=>Br.mk (λk1=>Ar.fit oM (Br.mk (λk2=>?_) (λk2=>?_))) (λk1=>?_)⟩;rotate_left 2
  ·have k2:¬(i:Int)<(p.pts.length:Int)-1:=k2;exact Ar.o<|⟨i+1,oM,zu [0,1,2,3,4,5] ⟨rfl,rfl,rfl,rfl,rfl,Xg (λq=>some (Mem.arr 127 zk 1 q)) (skip k (.inr oM)),trivial⟩,by dsimp only;omega⟩
  ·have k1:¬(0:Int)<(i:Int):=k1;exact Ar.o<|⟨i+1,oM,zu [0,1,2,3,4,5] ⟨rfl,rfl,rfl,rfl,rfl,Xg (λq=>some (Mem.arr 127 zk 1 q)) (skip k (.inl oM)),trivial⟩,by dsimp only;omega⟩
  all_goals
   have kk:¬(¬p.cl=true/\(i=0∨i=p.pts.length-1)):=by
    first
    |exact λh=>h.1 k
    |exact λh=>absurd h.2 (by have k1:(0:Int)<(i:Int):=k1;have k2:(i:Int)<(p.pts.length:Int)-1:=k2;omega)
   refine Dr.d<|Ar.o<|zb.t (zsv p.pts ((i:Int)-1) ((i+p.pts.length-1)%p.pts.length) ⟨oM,hp⟩ ⟨oM,oM⟩ (by rw[show(i:Int)-1+p.pts.length=((i+p.pts.length-1:Nat):Int) by omega];omega))<|Ob.o ?_;intro x hx;have hx:=qn (show p.pts[i]?=some x from hx);refine Ar.o<|zb.t (zsv p.pts ((i:Int)+1) ((i+1)%p.pts.length) ⟨oM,hp⟩ ⟨oM,oM⟩ (by rw[show(i:Int)+1+p.pts.length=((i+1:Nat):Int)+(p.pts.length:Int) by omega,Int.add_emod_right];omega)) ?_
   refine zb.t (zDR (nth p.pts ((i+p.pts.length-1)%p.pts.length)) x (nth p.pts ((i+1)%p.pts.length)) pen) ?_;have jl:=zhS (nth p.pts ((i+p.pts.length-1)%p.pts.length)) x (nth p.pts ((i+1)%p.pts.length)) pen
   refine zb.give [2,5] 1 [.sl zk (qY (nth p.pts ((i+p.pts.length-1)%p.pts.length)) x (nth p.pts ((i+1)%p.pts.length)) pen),.loc 0 0] [(0,.box 67 [.own 1]),(1,.arr 127 zk 1 (kX p pen++yd p pen i))] [(0,.box 67 [.own 2]),(2,.arr 127 zk 1 (ut (kX p pen++yd p pen i) (qY (nth p.pts ((i+p.pts.length-1)%p.pts.length)) x (nth p.pts ((i+1)%p.pts.length)) pen)))] (.tup []) (zD3 (kX p pen++yd p pen i) (qY (nth p.pts ((i+p.pts.length-1)%p.pts.length)) x (nth p.pts ((i+1)%p.pts.length)) pen) oM oM)
    LEs.refl rfl rfl rfl ⟨⟨_,rfl,rfl,rfl⟩,⟨_,rfl,rfl,trivial⟩,trivial⟩ rfl ⟨⟨rfl,rfl⟩,⟨rfl,trivial⟩,trivial⟩ ?_
   refine Ob.mk (by kernel_rfl)<|Ar.o<|⟨i+1,oM,zu [0,1,2,3,4,6] ⟨rfl,rfl,rfl,rfl,rfl,Xg (λq=>some (Mem.arr 127 zk 1 q)) ?_,trivial⟩,by dsimp only;omega⟩;rw[zqL zox,ej,show zfe p pen i=qY (nth p.pts ((i+p.pts.length-1)%p.pts.length)) (nth p.pts i) (nth p.pts ((i+1)%p.pts.length)) pen from Xc kk,hx];exact XY ..
variable{r:List Pt}
def zci{k:Nat}(h:r.length<=k):(kE r).length<=k:=by have:=zsf r;omega
def zyO(a b:Pt)(w:Int):(jT a b w).length<=16:=by
 unfold jT
 split
 ·simp
 exact zci (by simp)
def zsz(a:Pt)(w:Int):(vF a w).length<=16:=by
 unfold vF
 split
 ·simp
 exact zci (by rw[Xx];decide)
def cap_l(a b:Pt)(w:Int):(zkj a b w).length<=16:=by
 unfold zkj
 split
 ·simp
 exact zci (by simp)
def zD4(a:Pt)(w:Int):(zdK a w).length<=16:=by
 unfold zdK
 split
 ·simp
 exact zci (by simp)
def end_l(a b:Pt)(p:Pen):(y4 a b p).length<=16:=by
 unfold y4
 split
 ·exact cap_l ..
 split
 ·exact zsz ..
 simp
def dot_l(a:Pt)(p:Pen):(zbh a p).length<=16:=by
 unfold zbh
 split
 ·exact zD4 ..
 split
 ·exact zsz ..
 simp
def zeI{q:List Pt}{k:Nat}(h:r.length<=k)(hq:q∈kN r):q.length<=k:=by rw[zvp hq];exact h
def zD5{a v b:Pt}{p:Pen}:∀r∈qY a v b p,r.length<=16:=by
 intro r hr;unfold qY at hr
 split at hr
 ·cases hr
 split at hr
 ·exact zeI (zsz ..) hr
 split at hr
 ·cases hr
 refine zeI (zci ?_) hr
 split <;> simp
def zD6{p:Pl}{pen:Pen}:∀r∈ku p pen,r.length<=16:=by
 intro r hr;unfold ku at hr
 rcases Xs.1 hr with hr|hr
 ·rcases Xs.1 hr with hr|hr
  ·rw[vS]at hr
   rcases Xs.1 hr with hr|hr
   ·unfold zdW at hr;obtain⟨i,_,hr⟩:=QG.1 hr;exact zeI (zyO ..) hr
   split at hr
   ·exact zeI (zyO ..) hr
   cases hr
  rw[zch]at hr
  split at hr
  ·cases hr
  unfold yd at hr;obtain⟨i,_,hr⟩:=QG.1 hr;unfold zfe at hr
  split at hr
  ·cases hr
  exact zD5 r hr
 unfold zdP at hr
 split at hr
 ·exact zeI (dot_l ..) hr
 split at hr
 ·rcases Xs.1 hr with hr|hr <;> exact zeI (end_l ..) hr
 cases hr
def zgO(r:List Pt)(rs:List (List Pt)):qb (r::rs)=r.length+qb rs:=by unfold qb;simp
def zA3(a b:List (List Pt)):qb (a++b)=qb a+qb b:=by unfold qb;simp
def zt3{k:Nat}:∀{rs:List (List Pt)},(∀r∈rs,r.length<=k)->qb rs<=k*rs.length
 |[],_=>Xh _
 |r::rs,h=>by
  have h1:=h r (.head _);have h2:=zt3 λq hq=>h q (.tail _ hq)
  rw[zgO,Xn,YB];omega
def jp(p:Pl):(zt p).pts.length<=p.pts.length:=by
 have h:=zhP p.pts;unfold zt;dsimp only
 split
 ·unfold qf
  split
  ·rw[QS];omega
  exact h
 exact h
def zhU{p:Pl}{pen:Pen}(hp:p.pts.length<=4096):qb (ku (zt p) pen)<=200000/\(ku (zt p) pen).length<=10000:=by
 have h1:=zt3 (zD6 (p:=zt p) (pen:=pen));have h2:=zsw (zt p) pen;have h3:=jp p;omega
def rgE(c:List (List Pt)×Int):SV:=.tup [.sl zk c.1,i64 c.2]
variable{e:Int}
def qJ{c:List (List Pt)×Int}(h:c=([],e)):LE (.tup [.val (.slice none 0 0),i64 e]) (rgE c):=by
 rw[h];exact zM zD .refl
def zsA(p:Pl)(pen:Pen)(hp:p.pts.length<=4096):CG0 195 [.agg (plE p),.agg (jb pen)] [] (rgE (kz p pen)) []:=by
 refine zc Tryz.func195 ?_
 have es:kz p pen=if¬kC pen then([],13) else if¬∀q∈p.pts,zr q then([],6) else if 4096<p.pts.length then([],5)
  else if¬vG (ku (zt p) pen) then([],6) else if 4096<qb (ku (zt p) pen) then([],5) else(ku (zt p) pen,0):=rfl
 refine zb.t (zey pen)<|⟨λk=>?_,λk=>?_⟩
 ·have k:¬kC pen:=k;exact qJ (by rw[es,Xe k])
 have k:kC pen:=Xa.1 k;rw[kH k]at es;refine⟨List Pt,zk,[p.pts],rfl,Ob.o0 ?_⟩;have c1:qb [p.pts]=p.pts.length:=by rw[zgO];rfl
 refine zb.t (zkR [p.pts] oM) ?_;have a1:vG [p.pts]↔∀q∈p.pts,zr q:=⟨λh=>h _ (.head _),λh r hr=>by rw[Xv.1 hr];exact h⟩;refine⟨λk2=>?_,λk2=>?_⟩
 ·have k2:¬∀q∈p.pts,zr q:=λh=>k2 (a1.2 h)
  exact qJ (by rw[es,Xe k2])
 have k2:∀q∈p.pts,zr q:=a1.1 (Xa.1 k2);rw[kH k2,Xc (show¬4096<p.pts.length by omega)]at es;intro hl1;refine⟨λk3=>?_,λ_=>?_⟩
 ·have k3:(4096:Int)<p.pts.length:=k3;omega
 have rc:=zhU (pen:=pen) hp;refine Dr.d<|zb.t (zgM p hp)<|zb.t (zA2 (zt p) pen (by have:=jp p;omega))<|Ob.mk (by kernel_rfl)<|zb.t (zkR (ku (zt p) pen) oM)<|⟨λk4=>?_,λk4=>?_⟩
 ·have k4:¬vG (ku (zt p) pen):=k4;exact qJ (by rw[es,Xe k4])
 have k4:vG (ku (zt p) pen):=Xa.1 k4;rw[kH k4]at es;refine⟨λk5=>?_,λk5=>?_⟩
 ·have k5:(4096:Int)<(if vG (ku (zt p) pen) then(qb (ku (zt p) pen):Int) else 0):=k5;rw[Xe k4]at k5;exact qJ (by rw[es,Xe oM])
 have k5:¬(4096:Int)<(if vG (ku (zt p) pen) then(qb (ku (zt p) pen):Int) else 0):=k5;rw[Xe k4]at k5;rw[Xc (show¬4096<qb (ku (zt p) pen) by omega)]at es;rw[es];exact .refl
def zsB(p:Pl)(pen:Pen)(hp:p.pts.length<=4096):CG0 154 [.agg (plE p),.agg (jb pen)] [] (rgE (kz p pen)) []:=by
 refine zc Tryz.func154 ?_
 have es:kz p pen=if¬kC pen then([],13) else if¬∀q∈p.pts,zr q then([],6) else if 4096<p.pts.length then([],5)
  else if¬vG (ku (zt p) pen) then([],6) else if 4096<qb (ku (zt p) pen) then([],5) else(ku (zt p) pen,0):=rfl
 refine zb.t (zcM pen)<|⟨λk=>?_,λk=>?_⟩
 ·have k:¬kC pen:=k;exact qJ (by rw[es,Xe k])
 have k:kC pen:=Xa.1 k;rw[kH k]at es;refine zb.t (zqN p.pts)<|⟨λk2=>?_,λk2=>?_⟩
 ·have k2:¬∀q∈p.pts,zr q:=k2;exact qJ (by rw[es,Xe k2])
 have k2:∀q∈p.pts,zr q:=Xa.1 k2;rw[kH k2,Xc (show¬4096<p.pts.length by omega)]at es;intro hl1;refine⟨λk3=>?_,λ_=>?_⟩
 ·have k3:(4096:Int)<p.pts.length:=k3;omega
 have rc:=zhU (pen:=pen) hp;refine Dr.d<|zb.t (zi7 p hp)<|zb.t (zvE (zt p) pen (by have:=jp p;omega))<|Ob.mk (by kernel_rfl)<|⟨Nat,λi=>⟨[(6,.sl zk (ku (zt p) pen)),(7,i64 (i:Int))],[],0,39,0⟩,λi=>i<=(ku (zt p) pen).length/\vG ((ku (zt p) pen).take i),λi=>(ku (zt p) pen).length-i,0,?_,?_,?_⟩
 ·exact⟨Xh _,λr hr=>by cases hr⟩
 ·exact zC []
 rintro i ⟨h1,h2⟩
 intro hl2;refine⟨λg=>?_,λg=>?_⟩
 ·have g:(i:Int)<(ku (zt p) pen).length:=g;refine Ob.o ?_;intro x hx;have hx:(ku (zt p) pen)[i]?=some x:=hx;refine zb.t (zqN x)<|⟨λk4=>?_,λk4=>?_⟩
  ·have k4:¬vG (ku (zt p) pen):=λh=>k4 (h x (Xf hx))
   exact qJ (by rw[es,Xe k4])
  have k4:=Xa.1 k4;exact Ar.o<|⟨i+1,⟨oM,zcN hx h2 k4⟩,zC [],by dsimp only;omega⟩
 have g:¬(i:Int)<(ku (zt p) pen).length:=g;rw[Xi oM]at h2;rw[kH h2]at es;refine zb.t (zt1 (ku (zt p) pen) oM)<|⟨λk5=>?_,λk5=>?_⟩
 ·have k5:(4096:Int)<qb (ku (zt p) pen):=k5;exact qJ (by rw[es,Xe oM])
 have k5:¬(4096:Int)<qb (ku (zt p) pen):=k5;rw[Xc (show¬4096<qb (ku (zt p) pen) by omega)]at es;rw[es];exact .refl
def zaO(l:List Pl)(pen:Pen):List (List Pt):=l.flatMap λp=>(kz p pen).1
variable{l:List Pl}{i:Nat}{x:Pl}
def zmQ(h:l[i]?=some x):zaO (l.take (i+1)) pen=zaO (l.take i) pen++(kz x pen).1:=by
 unfold zaO;rw[Xl,h,Qk];simp
def zdY{pen:Pen}:∀{l:List Pl},(∀p∈l,(kz p pen).2=0)->qk l pen=(zaO l pen,0)
 |[],_=>rfl
 |p::r,h=>by
  have ih:=zdY λq hq=>h q (.tail _ hq)
  unfold qk;rw[qK (h p (.head _)),ih];rfl
def zcQ{pen:Pen}:∀{l:List Pl} {i:Nat} {x:Pl},l[i]?=some x->(∀p∈l.take i,(kz p pen).2=0)->¬(kz x pen).2=0->qk l pen=([],(kz x pen).2)
 |p::r,0,x,h,_,hx=>by
  cases h
  unfold qk;rw[Xe hx]
 |p::r,i+1,x,h,ha,hx=>by
  have ih:=zcQ (l:=r) (i:=i) h (λq hq=>ha q (by rw[Km];exact .tail _ hq)) hx;unfold qk;rw[qK (ha p (by rw[Km];exact .head _)),ih];exact Xe hx
def zcR(h:(kz p pen).2=0)(hp:p.pts.length<=4096):vG (kz p pen).1/\qb (kz p pen).1<=4096/\(kz p pen).1.length<=10000:=by
 have rc:=zhU (pen:=pen) hp;unfold kz at h ⊢
 split at h <;> rename_i k1
 ·cases h
 rw[Xc k1]
 split at h <;> rename_i k2
 ·cases h
 rw[Xc k2]
 split at h <;> rename_i k3
 ·cases h
 rw[Xc k3]
 split at h <;> rename_i k4
 ·cases h
 rw[Xc k4]
 split at h <;> rename_i k5
 ·cases h
 rw[Xc k5];exact⟨Xa.1 k4,by dsimp only;omega,rc.2⟩
def zfL{pen:Pen}:∀{l:List Pl},(∀p∈l,(kz p pen).2=0)->(∀p∈l,p.pts.length<=4096)->vG (zaO l pen)/\qb (zaO l pen)<=4096*l.length/\(zaO l pen).length<=10000*l.length
 |[],_,_=>⟨λr hr=>(by cases hr),Xk 0,Xk 0⟩
 |p::r,h,hl=>by
  obtain⟨i1,i2,i3⟩:=zfL (l:=r) (λq hq=>h q (.tail _ hq)) (λq hq=>hl q (.tail _ hq));obtain⟨f1,f2,f3⟩:=zcR (h p (.head _)) (hl p (.head _));have e:zaO (p::r) pen=(kz p pen).1++zaO r pen:=rfl;rw[e,zA3,Xq,Xn];refine⟨λq hq=>?_,oM,oM⟩
  rcases Xs.1 hq with hq|hq
  ·exact f1 q hq
  exact i1 q hq
def zgP{P:Pl->Prop}(h:l[i]?=some x)(ha:∀p∈l.take i,P p)(hx:P x):∀p∈l.take (i+1),P p:=by
 intro p hp;rw[Xl,h]at hp
 rcases Xs.1 hp with hp|hp
 ·exact ha p hp
 simp at hp;rw[hp];exact hx
def zvF(l:List Pl)(pen:Pen)(hl:l.length<=16777216)(hp:∀q∈l,q.pts.length<=4096):CG0 131 [.sl plE l,.agg (jb pen)] [] (rgE (qo l pen)) []:=by
 refine zc Tryz.func131 ?_;have es:qo l pen=if¬kC pen then([],13) else if (qk l pen).2≠0 then([],(qk l pen).2) else if 4096<qb (qk l pen).1 then([],5) else((qk l pen).1,0):=rfl
 refine zb.t (zey pen)<|⟨λk=>?_,λk=>?_⟩
 ·have k:¬kC pen:=k;exact qJ (by rw[es,Xe k])
 have k:kC pen:=Xa.1 k;rw[kH k]at es;intro hl1;refine⟨Nat,λi=>⟨[(3,.loc 0 0),(6,.own 1),(16,.sl plE l),(17,i64 (l.length:Int)),(18,i64 (i:Int))],[(0,.box 43 (jb pen)),(1,.arr 127 zk 1 (zaO (l.take i) pen))],2,43,0⟩,λi=>i<=l.length/\∀q∈l.take i,(kz q pen).2=0,λi=>l.length-i,0,?_,?_,?_⟩
 ·exact⟨Xh _,λq hq=>by cases hq⟩
 ·exact zC [(0,some 0),(1,none)]
 rintro i ⟨h1,h2⟩
 obtain⟨f1,f2,f3⟩:=zfL h2 λq hq=>hp q (XL hq)
 rw[Xo]at f2 f3;refine⟨λg=>?_,λg=>?_⟩
 ·have g:(i:Int)<l.length:=g;refine Ob.o ?_;intro x hx;have hx:l[i]?=some x:=hx;have hpx:=hp x (Xf hx);refine zb.t (zsA x pen hpx)<|⟨λz=>?_,λz=>?_⟩
  ·have z:¬(kz x pen).2=0:=z;refine qJ ?_;rw[es,zcQ hx h2 z];exact Xe z
  have z:(kz x pen).2=0:=Xa.1 z;obtain⟨s1,s2,s3⟩:=zcR z hpx;refine⟨(kz x pen).1,rfl,Ob.mk ⟨(by show _*(24:Int)<=_;omega),oM,dC,λ_ _=>rfl⟩ ?_⟩;exact Ar.o<|⟨i+1,⟨oM,zgP hx h2 z⟩,zu [0,3] ⟨rfl,Xg (λq=>some (Mem.arr 127 zk 1 q)) (zmQ hx).symm,trivial⟩,by dsimp only;omega⟩
 have g:¬(i:Int)<l.length:=g;have et:l.take i=l:=Xi oM;rw[et]at h2 f1;rw[zdY h2,qK rfl]at es;have et2:zaO (l.take i) pen=zaO l pen:=by rw[et]
 refine zb.t (zkR (zaO (l.take i) pen) oM)<|⟨λk5=>?_,λk5=>?_⟩
 ·have k5:(4096:Int)<(if vG (zaO (l.take i) pen) then(qb (zaO (l.take i) pen):Int) else 0):=k5;rw[et,Xe f1]at k5;exact qJ (by rw[es,Xe (by dsimp only;omega)])
 have k5:¬(4096:Int)<(if vG (zaO (l.take i) pen) then(qb (zaO (l.take i) pen):Int) else 0):=k5;rw[et,Xe f1]at k5;rw[Xc (by dsimp only;omega)]at es;rw[es];exact zM (z0 et2) .refl
def zvG(l:List Pl)(pen:Pen)(hl:l.length<=16777216)(hp:∀q∈l,q.pts.length<=4096):CG0 101 [.sl plE l,.agg (jb pen)] [] (rgE (qo l pen)) []:=by
 refine zc Tryz.func101 ?_;have es:qo l pen=if¬kC pen then([],13) else if (qk l pen).2≠0 then([],(qk l pen).2) else if 4096<qb (qk l pen).1 then([],5) else((qk l pen).1,0):=rfl
 refine zb.t (zcM pen)<|⟨λk=>?_,λk=>?_⟩
 ·have k:¬kC pen:=k;exact qJ (by rw[es,Xe k])
 have k:kC pen:=Xa.1 k;rw[kH k]at es;refine⟨List Pt,zk,[],rfl,Ob.o2 ?_⟩;refine⟨Nat,λi=>⟨[(0,.sl plE l),(3,.loc 0 0),(6,.own 1),(7,i64 (i:Int))],[(0,.box 43 (jb pen)),(1,.arr 127 zk 1 (zaO (l.take i) pen))],2,50,0⟩,λi=>i<=l.length/\∀q∈l.take i,(kz q pen).2=0,λi=>l.length-i,0,?_,?_,?_⟩
 ·exact⟨Xh _,λq hq=>by cases hq⟩
 ·exact zf [0,1]
 rintro i ⟨h1,h2⟩
 obtain⟨f1,f2,f3⟩:=zfL h2 λq hq=>hp q (XL hq)
 rw[Xo]at f2 f3;intro hl1;refine⟨λg=>?_,λg=>?_⟩
 ·have g:(i:Int)<l.length:=g;refine Dr.d<|Ob.o ?_;intro x hx;have hx:l[i]?=some x:=hx;have hpx:=hp x (Xf hx);refine zb.t (zsB x pen hpx)<|Ob.mk (by kernel_rfl)<|⟨λz=>?_,λz=>?_⟩
  ·have z:¬(kz x pen).2=0:=z;refine qJ ?_;rw[es,zcQ hx h2 z];exact Xe z
  have z:(kz x pen).2=0:=Xa.1 z;obtain⟨s1,s2,s3⟩:=zcR z hpx;refine⟨Nat,λj=>⟨[(0,.sl plE l),(3,.loc 0 0),(6,.own 1),(7,i64 (i:Int)),(8,.sl zk (kz x pen).1),(10,i64 (j:Int))],[(0,.box 43 (jb pen)),(1,.arr 127 zk 1 (zaO (l.take i) pen++(kz x pen).1.take j))],2,50,0⟩,λj=>j<=(kz x pen).1.length,λj=>(kz x pen).1.length-j,0,?_,?_,?_⟩
  ·exact Xh _
  ·exact zu [0,1] ⟨rfl,Xg (λq=>some (Mem.arr 127 zk 1 q)) (XE _).symm,trivial⟩
  rintro j hj
  intro hl3;refine⟨λk2=>?_,λk2=>?_⟩
  ·have k2:(j:Int)<(kz x pen).1.length:=k2;refine Ob.o ?_;intro r hr;have hr:(kz x pen).1[j]?=some r:=hr;refine⟨List Pt,zk,[r],rfl,Ob.o0 ?_⟩;refine⟨[r],rfl,Ob.o24 ?_⟩;exact Ar.o<|⟨j+1,oM,zu [0,3] ⟨rfl,Xg (λq=>some (Mem.arr 127 zk 1 q)) (by rw[Xl,hr];exact XY ..),trivial⟩,by dsimp only;omega⟩
  have k2:¬(j:Int)<(kz x pen).1.length:=k2;exact Ar.o<|⟨i+1,⟨oM,zgP hx h2 z⟩,zu [0,1] ⟨rfl,Xg (λq=>some (Mem.arr 127 zk 1 q)) (by rw[show(kz x pen).1.take j=(kz x pen).1 from Xi oM,zmQ hx]),trivial⟩,by dsimp only;omega⟩
 have g:¬(i:Int)<l.length:=g;have et:l.take i=l:=Xi oM;rw[et]at h2;rw[zdY h2,qK rfl]at es;have et2:zaO (l.take i) pen=zaO l pen:=by rw[et]
 refine zb.t (zt1 (zaO (l.take i) pen) oM)<|⟨λk5=>?_,λk5=>?_⟩
 ·have k5:(4096:Int)<qb (zaO (l.take i) pen):=k5;rw[et]at k5;exact qJ (by rw[es,Xe (by dsimp only;omega)])
 have k5:¬(4096:Int)<qb (zaO (l.take i) pen):=k5;rw[et]at k5;rw[Xc (by dsimp only;omega)]at es;rw[es];exact zM (z0 et2) .refl
def zX(q:Pl):List Pt:=if q.cl=true/\2<=q.pts.length then q.pts++[nth q.pts 0] else q.pts
def yJ(p:Pl):zj p=zX (zt p):=rfl
variable{q:Pl}
def zgQ(h:q.cl=true)(k:2<=q.pts.length):zX q=q.pts++[nth q.pts 0]:=Xe ⟨h,k⟩
def zoA(h:¬(q.cl=true/\2<=q.pts.length)):zX q=q.pts:=Xc h
def zbn{q:Pl}{i:Nat}(h:i<q.pts.length):nth (zX q) i=nth q.pts i:=by
 unfold zX
 split
 ·show(q.pts++[nth q.pts 0]).getD i zp=q.pts.getD i zp;rw[Xt,XK h];exact(Xt ..).symm
 rfl
def zqT(h:q.cl=true)(k:2<=q.pts.length):nth (zX q) q.pts.length=nth q.pts 0:=by
 rw[zgQ h k];show(q.pts++[nth q.pts 0]).getD q.pts.length zp=nth q.pts 0;rw[Xt,XF (Xk _),QY];rfl
def zcS(h:q.cl=true)(k:2<=q.pts.length):(zX q).length=q.pts.length+1:=by rw[zgQ h k,Xq];rfl
def zbC{q:Pl}(h:¬(q.cl=true/\2<=q.pts.length)):(zX q).length=q.pts.length:=by rw[zoA h]
def jD(q:Pl):q.pts.length<=(zX q).length/\(zX q).length<=q.pts.length+1:=by
 by_cases h:q.cl=true/\2<=q.pts.length
 ·rw[zcS h.1 h.2];omega
 rw[zbC h];omega
def zkT(q:Pl):List (Pt×Pt):=(List.range ((zX q).length-1)).map λi=>(nth (zX q) i,nth (zX q) (i+1))
def segE(s:Pt×Pt):List SV:=[.agg (ptE s.1),.agg (ptE s.2)]
def zoB(h:i<(zX q).length-1):(zkT q)[i]?=some (nth (zX q) i,nth (zX q) (i+1)):=by
 unfold zkT;rw[XD,Ql h];rfl
def zgR(q:Pl):(zkT q).length=(zX q).length-1:=by unfold zkT;simp
def zsC(q:Pl):CG0 267 [.agg (plE q)] [] (.dfn 338 [.dptr (plE q)]) []:=by
 exact u0 2 tok mix Tryz.func267 rfl rfl rfl<|.refl
def zA4(q:Pl)(hq:q.pts.length<=4096):zfc Tryz.prog 338 [.dptr (plE q)] segE (zkT q):=by
 refine zi2 (caps:=[.dptr (plE q)]) (enc:=segE) (xs:=zkT q) tok mix Tryz.func338 rfl rfl rfl rfl (λl=>?_);intro hl1;refine⟨Nat,λk=>⟨[(0,.val (.func (.yield l) #[] #[])),(1,.dptr (plE q)),(3,i64 (q.pts.length:Int)),(4,i64 ((k:Int)+1))],[],0,45,0⟩,λk=>k,λk=>k<=q.pts.length-1,λk=>q.pts.length-k,0,?_,?_,rfl,rfl,?_⟩
 ·exact Xh _
 ·exact zC []
 rintro k hk
 have ll:=jD q;refine⟨λg=>?_,λg=>?_⟩
 ·have g:(k:Int)+1<q.pts.length:=g;refine YDr.split 12 (Ob.mk (by decide +kernel) ?_);refine Ar.o<|Ob.o ?_;intro x hx
  have hx:=qn (show q.pts[k]?=some x by
   have hx:q.pts[((k:Int)+1-1).toNat]?=some x:=hx
   rwa [show((k:Int)+1-1).toNat=k by omega]at hx)
  refine Ob.o ?_;intro y hy;have hy:=qn (show q.pts[k+1]?=some y from hy);refine⟨rfl,(x,y),(by show(zkT q)[k]?=some (x,y);rw[zoB oM,zbn oM,zbn oM,hx,hy]),rfl,.C (.C .nil),(λ_ _ h=>by cases h),?_⟩;refine Br.mk ?_ ?_
  ·refine Ar.o ?_;refine⟨k+1,oM,jh [] ⟨rfl,rfl,rfl,Xg (λq=>some (i64 q)) oM,trivial⟩ trivial,rfl,rfl,by dsimp only;omega⟩
  exact .inl rfl
 have g:¬(k:Int)+1<q.pts.length:=g;have ek:k=q.pts.length-1:=oM;have no:¬(q.cl=true/\2<=q.pts.length)->k=(zkT q).length:=λh=>by rw[zgR,zbC h];exact ek
 refine⟨λc=>?_,λc=>.inr (no λh=>c h.1)⟩;have c:q.cl=true:=c;refine⟨λn1=>?_,λn1=>.inr (no λh=>by have n1:¬(1:Int)<q.pts.length:=n1;omega)⟩;have n1:(1:Int)<q.pts.length:=n1;have le:=zcS c (show 2<=q.pts.length by omega);refine YDr.split 11 (Ob.mk (by decide +kernel) ?_);refine Ar.o<|Ob.o ?_;intro x hx
 have hx:=qn (show q.pts[q.pts.length-1]?=some x by
  have hx:q.pts[((q.pts.length:Int)-1).toNat]?=some x:=hx
  rwa [show((q.pts.length:Int)-1).toNat=q.pts.length-1 by omega]at hx)
 refine Ob.o ?_;intro y hy;have hy:=qn (show q.pts[0]?=some y from hy);refine⟨rfl,(x,y),?_,rfl,.C (.C .nil),(λ_ _ h=>by cases h),?_⟩
 ·show(zkT q)[k]?=some (x,y);rw[zoB oM,ek,zbn oM,show q.pts.length-1+1=q.pts.length by omega,zqT c oM,hx,hy]
 refine Br.mk ?_ ?_
 ·refine .inr ?_;show k+1=(zkT q).length;rw[zgR];omega
 exact .inl rfl
structure Me where
 ln:List Pt
 ts:List Int
 lg:Int
def meE(m:Me):List SV:=[.sl ptE m.ln,.sl zV m.ts,i64 m.lg]
def tsL(c:List Pt)(n:Nat):List Int:=(List.range n).map (atS c)
def zt4(p:Pl):Me:=if ∀q∈p.pts,zr q then⟨(zt p).pts,tsL (zj p) ((zj p).length-1),zL p⟩ else⟨[],[],0⟩
def zyP(c:List Pt)(n:Nat):tsL c (n+1)=tsL c n++[atS c n]:=by
 unfold tsL;rw[Kx,XB];rfl
def zi8(c:List Pt)(n:Nat):(tsL c n).length=n:=by unfold tsL;simp
def zhV{c:List Pt}{n:Nat}{x:Int}(h:(tsL c n)[i]?=some x):x=atS c i:=by
 have hi:i<n:=by have:=(Xd.1 h).1;rwa [zi8]at this
 unfold tsL at h;rw[XD,Ql hi]at h;exact(Xm h).symm
def yu(a b:Pt):0<=jd a b/\jd a b<4294967296:=zhB _
def vT(c:List Pt)(n:Nat):0<=atS c n/\atS c n<=4294967296*(n:Int):=by
 induction n with
 |zero=>exact⟨Qo 0,by show(0:Int)<=_;decide⟩
 |succ n ih=>
  have:=yu (nth c n) (nth c (n+1));unfold atS;omega
def zmR(p:Pl)(hp:p.pts.length<=4096):CG0 191 [.agg (plE p)] [] (.tup [.agg (meE (zt4 p)),pr (∀q∈p.pts,zr q)]) []:=by
 refine vf 2 tok mix Tryz.func191 rfl rfl rfl ?_;intro hl1;refine⟨Nat,λi=>⟨[(1,.loc 0 0),(2,.loc 1 0),(11,.sl ptE p.pts),(12,i64 (p.pts.length:Int)),(13,i64 (i:Int))],[(0,.box 143 [.sl ptE p.pts,pr (p.cl=true)]),(1,.box 229 [.val (.slice none 0 0),.val (.slice none 0 0),i64 0])],2,47,0⟩,λi=>i<=p.pts.length/\∀q∈p.pts.take i,zr q,λi=>p.pts.length-i,0,?_,?_,?_⟩
 ·exact⟨Xh _,λq hq=>by cases hq⟩
 ·exact zf [0,1]
 rintro i ⟨h1,h2⟩
 refine⟨λg=>?_,λg=>?_⟩
 ·have g:(i:Int)<p.pts.length:=g;refine Ob.o ?_;intro x hx;have hx:p.pts[i]?=some x:=hx;refine zb.t (k8 x)<|⟨λk=>?_,λk=>?_⟩
  ·have k:¬∀q∈p.pts,zr q:=λh=>k (h x (Xf hx))
   have e:zt4 p=⟨[],[],0⟩:=Xc k;rw[e];exact zM (ji (.cons zD (.cons zD (.C .nil)))) (zd k)
  have k:=Xa.1 k;refine Ar.o<|⟨i+1,⟨oM,λq hq=>?_⟩,zf [0,1],by dsimp only;omega⟩;rw[Xl,hx]at hq
  rcases Xs.1 hq with hq|hq
  ·exact h2 q hq
  simp at hq;rw[hq];exact k
 have g:¬(i:Int)<p.pts.length:=g;rw[Xi oM]at h2;have dl:=jp p;have ll:=jD (zt p);refine zb.t (zgM p hp)<|zb.t (zsC (zt p)) ?_
 refine⟨Pt×Pt,segE,zkT (zt p),2,[(2,.loc 0 0),(7,.loc 1 0)],λj=>[(0,.box 229 [.val (.slice none 0 0),.val (.slice none 0 0),i64 0]),(1,.box 229 [.sl ptE (zt p).pts,.own 2,i64 (atS (zj p) j)]),(2,.arr 3 zV 1 (tsL (zj p) j))],λ_=>3,zA4 (zt p) oM,λ_=>rfl,⟨rfl,rfl,rfl,rfl⟩,
  zC [(0,some 1),(1,some 3),(2,none)],⟨Xh _,rfl⟩,λj=>?_,?_,?_⟩
 ·intro k m hm;simp only[XZ,XW,or_false,KD]at hm
  obtain⟨_,rfl⟩|⟨_,rfl⟩|⟨_,rfl⟩:=hm
  ·rfl
  ·rfl
  trivial
 ·intro j y hy _;have hj:j<(zj p).length-1:=by have:=(Xd.1 hy).1;rwa [zgR]at this
  have hy:y=(nth (zj p) j,nth (zj p) (j+1)):=by rw[zoB hj]at hy;exact(Xm hy).symm
  have hat:=vT (zj p) j;have hpc:=yu y.1 y.2;have e1:=zi8 (zj p) j;have ll':(zj p).length<=4097:=by rw[yJ];omega
  refine⟨Int,zV,[atS (zj p) j],rfl,Ob.o0 ?_⟩;refine⟨[atS (zj p) j],rfl,Ob.mk ⟨(by show _*(8:Int)<=_;simp only[Xn,Xr];omega),(by simp only[Xn,Xr];omega),dC,λ_ _=>rfl⟩ ?_⟩;refine Dr.d<|zb.t (zxM y.2 y.1)<|zb.t (zxP (zae y.2 y.1)) ?_;unfold jd at hpc;refine Ar.o<|Ob.mk (by kernel_rfl)<|zu [0,1,6] ⟨rfl,Xg (λq=>some (Mem.box 229 [.sl ptE (zt p).pts,.own 6,i64 q])) ?_,Xg (λq=>some (Mem.arr 3 zV 1 q)) (zyP _ _).symm,trivial⟩;rw[hy];rfl
 intro _;have e:zt4 p=⟨(zt p).pts,tsL (zj p) ((zj p).length-1),zL p⟩:=Xe h2;rw[e];have e2:=zgR (zt p);rw[←yJ]at e2;refine zM (ji (.C (.cons (z0 ?_) (.cons (ze ?_) .nil)))) (zI h2)
 ·rw[e2]
 rw[e2];rfl
def zqU(pen:Pen)(t:Nat):phD pen t=((t:Int)+256*pen.ph)%qB pen.d:=by unfold phD;exact(Int.add_emod ..).symm
def zdZ{d:List Int}(h:∀n∈d,0<=n)(hi:i<=d.length):0<=qu d i/\qu d i<=qB d:=by
 have h1:=zhI h (Xh i);have h2:=zhI h hi;rw[uq]at h1;rw[yI]at h2;exact⟨h1,h2⟩
variable{a:Nat}{lft:Int}
def ph_at{t:Nat}(hn:∀n∈pen.d,0<=n)(he:pen.d[i]?=some e)(hl:lft<=256*e)(hc:qB pen.d ∣ qu pen.d (i+1)-lft-((a:Int)+256*pen.ph))(h1:a<=t)(h2:(t:Int)-a<lft):phD pen t=qu pen.d (i+1)-lft+((t:Int)-a):=by
 have hi:i<pen.d.length:=(Xd.1 he).1;have hp:=zdZ hn (show i<=pen.d.length by omega);have hq:=zdZ hn (show i+1<=pen.d.length by omega);have hs:=ym he;obtain⟨q,hq'⟩:=hc;rw[zqU];have e1:(t:Int)+256*pen.ph=(qu pen.d (i+1)-lft+((t:Int)-a))+qB pen.d*(-q):=by rw[QR];omega
 rw[e1,Int.add_mul_emod_self_left];exact Int.emod_eq_of_lt oM oM
def zCz{t:Nat}(hn:∀n∈pen.d,0<=n)(he:pen.d[i]?=some e)(hl:lft<=256*e)(hc:qB pen.d ∣ qu pen.d (i+1)-lft-((a:Int)+256*pen.ph))(h1:a<=t)(h2:(t:Int)-a<lft):onD pen t↔i%2=0:=by
 have hs:=ym he;unfold onD;rw[ph_at hn he hl hc h1 h2,zeD hn he oM oM];show(0+i)%2=0↔_;rw[Ka]
def zA5{b:Nat}{e':Int}(hi:i<pen.d.length)(he':pen.d[(i+1)%pen.d.length]?=some e')(hc:qB pen.d ∣ qu pen.d (i+1)-lft-((a:Int)+256*pen.ph))(hb:(b:Int)=a+lft):
  qB pen.d ∣ qu pen.d ((i+1)%pen.d.length+1)-256*e'-((b:Int)+256*pen.ph):=by
 rw[ym he']
 by_cases h:i+1<pen.d.length
 ·rw[Xy h]
  rwa [show qu pen.d (i+1)+256*e'-256*e'-((b:Int)+256*pen.ph)=qu pen.d (i+1)-lft-((a:Int)+256*pen.ph) by omega]
 have hl:i+1=pen.d.length:=by omega
 rw[hl,Ya,uq];rw[hl,yI]at hc;rw[show(0:Int)+256*e'-256*e'-((b:Int)+256*pen.ph)=(qB pen.d-lft-((a:Int)+256*pen.ph))-qB pen.d by omega];exact Int.dvd_sub hc (Int.dvd_refl _)
def u4(r:Nat)(d:List Int)(n:Nat):Int:=((List.range n).map λi=>if i%2=r then d.getD i 0 else 0).sum
def zmS(r:Nat)(d:List Int)(n:Nat):u4 r d (n+1)=u4 r d n+if n%2=r then d.getD n 0 else 0:=by
 unfold u4;rw[Kx,XB,QM];simp
def zeJ{r:Nat}{d:List Int}{n:Nat}{x:Int}(hx:d[n]?=some x)(h:n%2=r):u4 r d (n+1)=u4 r d n+x:=by
 rw[zmS,Xe h,Xt,hx];rfl
def zhW{r:Nat}{d:List Int}{n:Nat}(h:¬n%2=r):u4 r d (n+1)=u4 r d n:=by
 rw[zmS,Xc h,J5]
def zbD(d:List Int):∀n,n<=d.length->256*(u4 0 d n+u4 1 d n)=qu d n
 |0,_=>rfl
 |n+1,h=>by
  have ih:=zbD d n oM;have hx:d[n]?=some d[n]:=Xb oM;rw[ym hx]
  rcases JO n with k|k
  ·rw[zeJ hx k,zhW (r:=1) oM];omega
  rw[zeJ hx k,zhW (r:=0) oM];omega
def zd0(d:List Int):drawn d=256*u4 0 d d.length:=rfl
def yf{r:Nat}{d:List Int}(h:∀n∈d,0<=n):∀n,n<=d.length->0<=u4 r d n
 |0,_=>Qo 0
 |n+1,hn=>by
  have ih:=yf (r:=r) h n oM;have hx:d[n]?=some d[n]:=Xb oM;have:=h d[n] (KJ _)
  by_cases k:n%2=r
  ·rw[zeJ hx k];omega
  rw[zhW k];exact ih
def yg{d:List Int}(h:uz d):(∀n∈d,0<=n)/\(∀n∈d,n<=1048576)/\d.length<=16/\qB d<=4294967296:=by
 have h2:∀n∈d,n<=1048576:=λn hn=>(h.1 n hn).2
 have h3:d.length<=16:=by have:=h.2.2.2;omega
 have:=zx9 h2;exact⟨λn hn=>(h.1 n hn).1,h2,h3,by unfold qB;omega⟩
def frI:Option Nat->Int
 |none=> -1
 |some f=>f
def zoC{o:Option Nat}(h:frI o<0):o=none:=by
 cases o with
 |none=>rfl
 |some f=>have h:(f:Int)<0:=h;omega
def zoD{o:Option Nat}(h:¬frI o<0):∃f,o=some f/\frI o=f:=by
 cases o with
 |none=>exact absurd (show(-1:Int)<0 by decide) h
 |some f=>exact⟨f,rfl,rfl⟩
def zvH(pen:Pen)(hk:kC pen)(hper:0<qB pen.d):CG0 271 [.agg (jb pen),i64 0] [] (.tup [i64 ((yr pen.d (phD pen 0) 0).1:Int),i64 (yr pen.d (phD pen 0) 0).2]) []:=by
 refine zc Tryz.func271 ?_;obtain⟨d1,d2,d3,d4⟩:=yg hk.2.2.2.2.1;have hph:=hk.2.2.2.2.2;intro hl1;refine⟨Nat,λi=>⟨[(1,i64 0),(2,.loc 0 0),(6,i64 (qu pen.d i)),(13,.sl zV pen.d),(14,i64 (pen.d.length:Int)),(15,i64 (i:Int))],[(0,.box 43 (jb pen))],1,57,0⟩,λi=>i<=pen.d.length,λi=>pen.d.length-i,0,?_,?_,?_⟩
 ·exact Xh _
 ·exact zf [0]
 rintro i hi
 have hpi:=zdZ d1 hi;refine⟨λg=>?_,λg=>?_⟩
 ·have g:(i:Int)<pen.d.length:=g;refine Ob.o ?_;intro x hx;have hx:pen.d[i]?=some x:=hx;have hx1:=d1 x (Xf hx);have hx2:=d2 x (Xf hx);(iterate 3 refine Ar.o ?_);exact⟨i+1,oM,zT [0] ⟨rfl,rfl,Xg (λq=>some (i64 q)) (ym hx).symm,rfl,rfl,rfl,trivial⟩ ⟨rfl,trivial⟩,by dsimp only;omega⟩
 have g:¬(i:Int)<pen.d.length:=g;have ei:i=pen.d.length:=oM;have eP:qu pen.d i=qB pen.d:=by rw[ei,yI]
 have m1:=Kb (256*pen.ph) (show qu pen.d i≠0 by omega);have m2:=X3 (256*pen.ph) (show 0<qu pen.d i by omega);have m3:(0:Int)%qu pen.d i=0:=Int.zero_emod _;have m4:=Kb (0%qu pen.d i+256*pen.ph%qu pen.d i) (show qu pen.d i≠0 by omega);have m5:=X3 (0%qu pen.d i+256*pen.ph%qu pen.d i) (show 0<qu pen.d i by omega);refine Dr.k<|Dv.pos ⟨oM,oM⟩<|Ar.o<|Dv.pos ⟨oM,oM⟩<|Ar.o<|Dv.pos ⟨oM,oM⟩ ?_
 have ek:phD pen 0=(0%qu pen.d i+256*pen.ph%qu pen.d i)%qu pen.d i:=by rw[eP];rfl
 rw[←ek]at m4 m5;intro hl2;refine⟨Nat,λi=>⟨[(9,i64 (phD pen 0-qu pen.d i)),(36,.sl zV pen.d),(37,i64 (pen.d.length:Int)),(38,i64 (i:Int))],[],0,57,0⟩,λi=>i<=pen.d.length/\qu pen.d i<=phD pen 0,λi=>pen.d.length-i,0,?_,?_,?_⟩
 ·exact⟨Xh _,by rw[uq];exact m4⟩
 ·exact jh [] ⟨Xg (λq=>some (i64 q)) (by rw[uq,Int.sub_zero];exact ek.symm),rfl,rfl,rfl,trivial⟩ trivial
 rw[eP]at m5
 rintro i ⟨hi,hle⟩
 have hpi:=zdZ d1 hi;refine⟨λg=>?_,λg=>?_⟩
 ·have g:(i:Int)<pen.d.length:=g;refine Ob.o ?_;intro x hx;have hx:pen.d[i]?=some x:=hx;have hx1:=d1 x (Xf hx);have hx2:=d2 x (Xf hx);have hs:=ym hx;refine Ar.o<|Br.mk (λc=>?_) (λc=>?_)
  ·have c:phD pen 0-qu pen.d i<256*x:=c;have hp:=zeD (i0:=0) d1 hx hle oM;(iterate 2 refine Ar.o ?_);refine zM (ze ?_) (ze ?_)
   ·rw[hp];show(i:Int)=((0+i:Nat):Int);omega
   rw[hp];dsimp only;omega
  have c:¬phD pen 0-qu pen.d i<256*x:=c;(iterate 3 refine Ar.o ?_);exact⟨i+1,⟨oM,oM⟩,jh [] ⟨Xg (λq=>some (i64 q)) (by rw[hs];omega),rfl,rfl,rfl,trivial⟩ trivial,by dsimp only;omega⟩
 have g:¬(i:Int)<pen.d.length:=g;have:qu pen.d i=qB pen.d:=by rw[show i=pen.d.length by omega,yI]
 omega
end Go.Gs
