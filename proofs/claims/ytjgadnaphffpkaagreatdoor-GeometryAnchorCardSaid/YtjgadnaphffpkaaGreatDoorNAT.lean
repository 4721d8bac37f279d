/- Dashes in the second text: the part between two distances. -/
import Derived.Test.YtjgadnaphffpkaaGreatDoorNA
import Derived.Test.YtjgadnaphffpkaaGreatDoorNAS
import Derived.Test.YtjgadnaphffpkaaGreatDoorNAQ
import Derived.Test.YtjgadnaphffpkaaGreatDoorNAK
import Derived.Test.YtjgadnaphffpkaaGreatDoorNAR
import Derived.Test.YtjgadnaphffpkaaGreatDoorNAL
set_option maxRecDepth 100000
set_option maxHeartbeats 8000000
set_option linter.all false
namespace Go.Gs
open Go.Proofs
theorem zmC:∀{l:List Pt} {i:Nat},jI l->i+1 < l.length->nth l i≠nth l (i+1)
 | [],_,_,h=>by cases h
 | [_],i,_,h=>by simp at h
 | a::b::r,0,h,_=>h.1 b rfl
 | a::b::r,i+1,h,hl=>zmC (l:=b::r) (i:=i) h.2 (by simpa using hl)
theorem zsb(p:Pl):jI (ze p):=by
 have ha:jI (zu p).pts:=by
  unfold zu;dsimp only
  split
  ·exact zbe (ug _)
  ·exact ug _
 rw[yP]
 by_cases h:(zu p).cl=true/\2<=(zu p).pts.length
 ·rw[zgC h.1 h.2];refine zfo ha λe=>?_
  have hc:p.cl=true:=h.1;have ed:=zfw hc;have ht:=zl7 (l:=jd p.pts) (ug _) (by rw[← ed];omega);rw[← ed,e]at ht;refine ht ?_;unfold nth;rw[Xt,Jj,Xb (show 0 < (zu p).pts.length by omega)];rfl
 ·rw[zn6 h];exact ha
variable{p:Pl}{i:Nat}
theorem zgG(h:∀q∈p.pts,zn q)(hi:i < (ze p).length):zn (nth (ze p) i):=h _ (zxH (ztr hi))
theorem ztK(h:∀q∈p.pts,zn q)(hi:i+1 < (ze p).length):1<=zP (nth (ze p) i) (nth (ze p) (i+1)):=
 zvp (zgG h oM) (zgG h hi) (zmC (zsb p) hi)
theorem qX(c:List Pt)(i:Nat):atS c (i+1)=atS c i+zP (nth c i) (nth c (i+1)):=rfl
theorem ztL(h:∀q∈p.pts,zn q){t:Int}(hi:i+1 < (ze p).length)(h1:atS (ze p) i < t)(h2:t<=atS (ze p) (i+1)):
  zda (ze p) t=qQ (nth (ze p) i) (nth (ze p) (i+1)) (t - atS (ze p) i) (zP (nth (ze p) i) (nth (ze p) (i+1))):=by
 have pr:=yF (nth (ze p) i) (nth (ze p) (i+1));have sp:=ztK h hi
 by_cases c:t < atS (ze p) (i+1)
 ·exact zob oM oM c
 have e:t=atS (ze p) (i+1):=oM
 by_cases c2:i+2 < (ze p).length
 ·have sp2:=ztK h (i:=i+1) c2;have pr2:=yF (nth (ze p) (i+1)) (nth (ze p) (i+1+1));rw[zob (i:=i+1) oM oM (by rw[qX (ze p) (i+1)];omega),e,Int.sub_self,zmA oM (zgG h hi)];rw[show atS (ze p) (i+1) - atS (ze p) i=zP (nth (ze p) i) (nth (ze p) (i+1)) by rw[qX];omega,zmB oM (zgG h oM) (zgG h hi)]
 ·unfold zda;rw[show(ze p).length - 2=i by omega,zkC oM];dsimp only;rw[show atS (ze p) (i+1) - atS (ze p) i=zP (nth (ze p) i) (nth (ze p) (i+1)) by rw[qX];omega]
theorem zqB{c:List Pt}{f t:Int}:∀{n:Nat},(∀j,j < n->¬f < atS c j)->ze0 c f t n=[]
 | 0,_=>rfl
 | n+1,h=>by rw[zeE,zqB λj hj=>h j oM,if_neg λk=>h n oM k.1];rfl
def zsc(c:List Pt)(f t:Int)(i:Nat):List Pt:=(if f < atS c i then[zda c f] else[])++ze0 c f t i++(if t<=atS c i then[zda c t] else[])
def zdb(c:List Pt)(f t:Int)(i:Nat):List Pt:=kC [] (zsc c f t i)
variable{f:Int}
theorem zvq(h:∀q∈p.pts,zn q){t:Int}(hi:i+1 < (ze p).length)(hft:f < t):
  zdb (ze p) f t (i+1)=kC (zdb (ze p) f t i)
   ((if ¬f < atS (ze p) i/\f < atS (ze p) (i+1) then[qQ (nth (ze p) i) (nth (ze p) (i+1)) (f - atS (ze p) i) (zP (nth (ze p) i) (nth (ze p) (i+1)))] else[])++
    (if f < atS (ze p) i/\atS (ze p) i < t then[nth (ze p) i] else[])++
    (if atS (ze p) i < t/\t<=atS (ze p) (i+1) then[qQ (nth (ze p) i) (nth (ze p) (i+1)) (t - atS (ze p) i) (zP (nth (ze p) i) (nth (ze p) (i+1)))] else[])):=by
 have mono:=zkF (c:=ze p) (show i<=i+1 by omega);have key:∀A B,kC [] (A++B)=kC (kC [] A) B:=λA B=>by unfold kC;rw[KC]
 unfold zdb;rw[← key];congr 1;unfold zsc;rw[zeE]
 by_cases F:f < atS (ze p) i
 ·rw[if_pos F,if_pos (show f < atS (ze p) (i+1) by omega),if_neg (show ¬(¬f < atS (ze p) i/\f < atS (ze p) (i+1)) from λk=>k.1 F)]
  by_cases T:t<=atS (ze p) i
  ·rw[if_pos T,if_pos (show t<=atS (ze p) (i+1) by omega),if_neg (show ¬(f < atS (ze p) i/\atS (ze p) i < t) by omega),if_neg (show ¬(atS (ze p) i < t/\t<=atS (ze p) (i+1)) by omega)];simp
  ·rw[if_neg T,if_pos (show f < atS (ze p) i/\atS (ze p) i < t by omega)]
   by_cases T2:t<=atS (ze p) (i+1)
   ·rw[if_pos T2,if_pos (show atS (ze p) i < t/\t<=atS (ze p) (i+1) by omega),ztL h hi oM T2];simp
   ·rw[if_neg T2,if_neg (show ¬(atS (ze p) i < t/\t<=atS (ze p) (i+1)) by omega)];simp
 ·have mn:ze0 (ze p) f t i=[]:=zqB λj hj k=>F (by have:=zkF (c:=ze p) (show j<=i by omega);omega)
  rw[if_neg F,mn,if_neg (show ¬(f < atS (ze p) i/\atS (ze p) i < t) by omega),if_neg (show ¬t<=atS (ze p) i by omega)]
  by_cases F2:f < atS (ze p) (i+1)
  ·rw[if_pos F2,if_pos (show ¬f < atS (ze p) i/\f < atS (ze p) (i+1) by omega),zob (i:=i) oM F F2]
   by_cases T2:t<=atS (ze p) (i+1)
   ·rw[if_pos T2,if_pos (show atS (ze p) i < t/\t<=atS (ze p) (i+1) by omega),ztL h hi oM T2];simp
   ·rw[if_neg T2,if_neg (show ¬(atS (ze p) i < t/\t<=atS (ze p) (i+1)) by omega)];simp
  ·rw[if_neg F2,if_neg (show ¬(¬f < atS (ze p) i/\f < atS (ze p) (i+1)) by omega),if_neg (show ¬t<=atS (ze p) (i+1) by omega),if_neg (show ¬(atS (ze p) i < t/\t<=atS (ze p) (i+1)) by omega)];simp
theorem zyo{t:Int}(hft:f < t)(ht:t<=zK p):zdb (ze p) f t ((ze p).length - 1)=vo (ze p) f t:=by
 have e:atS (ze p) ((ze p).length - 1)=zK p:=rfl;unfold zdb zsc vo;rw[if_pos (show f < atS (ze p) ((ze p).length - 1) by omega),if_pos (show t<=atS (ze p) ((ze p).length - 1) by omega)]
theorem zyp(c:List Pt)(f t:Int)(i:Nat):(zdb c f t i).length<=i+2:=by
 have h:=vA (zsc c f t i) []
 have hm:(ze0 c f t i).length<=i:=by
  unfold ze0;rw[Xz];exact XB (QF _ _) (by simp)
 unfold zdb
 have h2:(zsc c f t i).length<=i+2:=by
  unfold zsc;rw[Xj,Xj]
  split <;> split <;> simp <;> omega
 have h3:([]:List Pt).length=0:=rfl;omega
theorem zAl(p:Pl)(f t:Int)(hp:p.pts.length<=4096)(ok:∀q∈p.pts,zn q)(hf:0<=f)(hft:f < t)(ht:t<=zK p):
  CG0 132 [.agg (plE p),i64 f,i64 t] [] (.agg (plE ⟨vo (ze p) f t,false⟩)) []:=by
 refine zc Tryz.func132 ?_;have lr:=zfA p hp;have dl:=jx p;have ll:=jM (zu p);rw[← yP]at ll;refine zb.t (zqv p hp ok) ?_;have ef:zc7 0 [zbJ f [zK p]]=f:=show max 0 (min f (zK p))=f by omega
 have et:zc7 0 [zbJ t [zK p]]=t:=show max 0 (min t (zK p))=t by omega
 refine⟨λh=>absurd (show zc7 0 [zbJ t [zK p]]<=zc7 0 [zbJ f [zK p]] from h) oM,λ_=>?_⟩;refine zb.t (zym p hp)<|⟨Pt,ptE,[],rfl,Ob.o2 ?_⟩;refine⟨Nat,λi=>⟨[(6,.loc 0 0),(8,i64 f),(9,i64 t),(10,.sl ptE (ze p)),(11,.own 1),(12,i64 (atS (ze p) i)),(13,i64 ((i:Int)+1))],[(0,.box 118 [.val (.slice none 0 0),.val (.bool false)]),(1,.arr 35 ptE 2 (zdb (ze p) f t i))],2,120,0⟩,λi=>i<=(ze p).length - 1,λi=>(ze p).length - i,0,?_,?_,?_⟩
 ·exact Xe _
 ·refine zL [1,2] ⟨rfl,congrArg (λq=>some (i64 q)) ef,congrArg (λq=>some (i64 q)) et,rfl,rfl,rfl,rfl,trivial⟩ ⟨rfl,congrArg (λq=>some (Mem.arr 35 ptE 2 q)) ?_,trivial⟩;unfold zdb zsc;rw[show atS (ze p) 0=0 from rfl,if_neg oM,if_neg oM];rfl
 rintro i hi
 have ar:=vY (ze p) i;have sl:=zyp (ze p) f t i;intro hl1;refine⟨λg=>?_,λg=>?_⟩;rotate_left
 ·have g:¬(i:Int)+1 < (ze p).length:=g;refine qF (.cons (z9 ?_) (.cons (zd (show ¬(false=true) by decide)) .nil));rw[show i=(ze p).length - 1 by omega,zyo hft ht]
 have g:(i:Int)+1 < (ze p).length:=g;have hi1:i+1 < (ze p).length:=oM;have key:=zvq ok hi1 hft;rw[qX]at key;refine Dr.k<|Ar.o<|Ob.o ?_;intro x hx
 have hx:=qy (show(ze p)[i]? =some x by
  have hx:(ze p)[((i:Int)+1 - 1).toNat]? =some x:=hx
  rwa [show((i:Int)+1 - 1).toNat=i by omega]at hx)
 have hxs:∀x',(ze p)[((i:Int)+1 - 1).toNat]? =some x'->x'=x:=λx' h=>by
  rw[show((i:Int)+1 - 1).toNat=i by omega]at h;exact(qy h).trans hx.symm
 refine Ob.o ?_;intro y hy;have hy:=qy (show(ze p)[i+1]? =some y from hy);have hys:∀y',(ze p)[((i:Int)+1).toNat]? =some y'->y'=y:=λy' h=>(qy (show(ze p)[i+1]? =some y' from h)).trans hy.symm
 refine zb.t (ztH x y) ?_;have pr:=yF x y;rw[← hx,← hy]at key;refine⟨λa1=>?_,λa1=>?_⟩
 ·have a1:atS (ze p) i<=f:=a1;refine Ar.o<|Br.mk (λa2=>?_) (λa2=>?_)
  ·have a2:f < atS (ze p) i+zP x y:=a2;refine Dr.d<|Ar.o<|Ob.o ?_;intro x' hx';have hx':=hxs x' hx';refine Ob.o ?_;intro y' hy';have hy':=hys y' hy';rw[hx',hy'];refine Ar.o<|zb.t (zdN x y (f - atS (ze p) i) (zP x y))<|zb.fresh _ _ (zfD (zdb (ze p) f t i) (qQ x y (f - atS (ze p) i) (zP x y)) oM) rfl (λ_ _=>rfl) (.inr (λ_ _=>rfl))<|Ob.mk (by kernel_rfl) ?_;have s1:=zgt (zdb (ze p) f t i) (qQ x y (f - atS (ze p) i) (zP x y));refine⟨λb1=>absurd (show f < atS (ze p) i from b1) oM,λ_=>?_⟩
   refine⟨λc1=>?_,λc1=>?_⟩
   ·have c1:atS (ze p) i < t:=c1;refine Ar.o<|Br.mk (λc2=>?_) (λc2=>?_)
    ·have c2:t<=atS (ze p) i+zP x y:=c2;refine Dr.d<|Ar.o<|Ob.o ?_;intro x' hx';have hx':=hxs x' hx';refine Ob.o ?_;intro y' hy';have hy':=hys y' hy';rw[hx',hy'];refine Ar.o<|zb.t (zdN x y (t - atS (ze p) i) (zP x y))<|zb.fresh _ _ (zfD (yI (zdb (ze p) f t i) (qQ x y (f - atS (ze p) i) (zP x y))) (qQ x y (t - atS (ze p) i) (zP x y)) oM) rfl (λ_ _=>rfl) (.inr (λ_ _=>rfl))<|Ob.mk (by kernel_rfl) ?_;(iterate 2 refine Ar.o ?_)
     exact⟨i+1,oM,zL [0,3] ⟨rfl,rfl,rfl,rfl,rfl,congrArg (λq=>some (i64 q)) (by rw[qX,← hx,← hy]),congrArg (λq=>some (i64 q)) oM,trivial⟩ ⟨rfl,congrArg (λq=>some (Mem.arr 35 ptE 2 q)) (by rw[if_pos (show ¬f < atS (ze p) i/\f < atS (ze p) i+zP x y by omega),if_neg (show ¬(f < atS (ze p) i/\atS (ze p) i < t) by omega),if_pos (show atS (ze p) i < t/\t<=atS (ze p) i+zP x y by omega)]at key;exact key.symm),trivial⟩,by dsimp only;omega⟩
    ·have c2:¬t<=atS (ze p) i+zP x y:=c2;(iterate 2 refine Ar.o ?_);exact⟨i+1,oM,zL [0,2] ⟨rfl,rfl,rfl,rfl,rfl,congrArg (λq=>some (i64 q)) (by rw[qX,← hx,← hy]),congrArg (λq=>some (i64 q)) oM,trivial⟩ ⟨rfl,congrArg (λq=>some (Mem.arr 35 ptE 2 q)) (by rw[if_pos (show ¬f < atS (ze p) i/\f < atS (ze p) i+zP x y by omega),if_neg (show ¬(f < atS (ze p) i/\atS (ze p) i < t) by omega),if_neg (show ¬(atS (ze p) i < t/\t<=atS (ze p) i+zP x y) by omega)]at key;exact key.symm),trivial⟩,by dsimp only;omega⟩
   ·have c1:¬atS (ze p) i < t:=c1;(iterate 2 refine Ar.o ?_);exact⟨i+1,oM,zL [0,2] ⟨rfl,rfl,rfl,rfl,rfl,congrArg (λq=>some (i64 q)) (by rw[qX,← hx,← hy]),congrArg (λq=>some (i64 q)) oM,trivial⟩ ⟨rfl,congrArg (λq=>some (Mem.arr 35 ptE 2 q)) (by rw[if_pos (show ¬f < atS (ze p) i/\f < atS (ze p) i+zP x y by omega),if_neg (show ¬(f < atS (ze p) i/\atS (ze p) i < t) by omega),if_neg (show ¬(atS (ze p) i < t/\t<=atS (ze p) i+zP x y) by omega)]at key;exact key.symm),trivial⟩,by dsimp only;omega⟩
  ·have a2:¬f < atS (ze p) i+zP x y:=a2;refine⟨λb1=>absurd (show f < atS (ze p) i from b1) oM,λ_=>?_⟩;refine⟨λc1=>?_,λc1=>?_⟩
   ·have c1:atS (ze p) i < t:=c1;refine Ar.o<|Br.mk (λc2=>?_) (λc2=>?_)
    ·have c2:t<=atS (ze p) i+zP x y:=c2;refine Dr.d<|Ar.o<|Ob.o ?_;intro x' hx';have hx':=hxs x' hx';refine Ob.o ?_;intro y' hy';have hy':=hys y' hy';rw[hx',hy'];refine Ar.o<|zb.t (zdN x y (t - atS (ze p) i) (zP x y))<|zb.fresh _ _ (zfD (zdb (ze p) f t i) (qQ x y (t - atS (ze p) i) (zP x y)) oM) rfl (λ_ _=>rfl) (.inr (λ_ _=>rfl))<|Ob.mk (by kernel_rfl) ?_;(iterate 2 refine Ar.o ?_)
     exact⟨i+1,oM,zL [0,2] ⟨rfl,rfl,rfl,rfl,rfl,congrArg (λq=>some (i64 q)) (by rw[qX,← hx,← hy]),congrArg (λq=>some (i64 q)) oM,trivial⟩ ⟨rfl,congrArg (λq=>some (Mem.arr 35 ptE 2 q)) (by rw[if_neg (show ¬(¬f < atS (ze p) i/\f < atS (ze p) i+zP x y) by omega),if_neg (show ¬(f < atS (ze p) i/\atS (ze p) i < t) by omega),if_pos (show atS (ze p) i < t/\t<=atS (ze p) i+zP x y by omega)]at key;exact key.symm),trivial⟩,by dsimp only;omega⟩
    ·have c2:¬t<=atS (ze p) i+zP x y:=c2;(iterate 2 refine Ar.o ?_);exact⟨i+1,oM,zL [0,1] ⟨rfl,rfl,rfl,rfl,rfl,congrArg (λq=>some (i64 q)) (by rw[qX,← hx,← hy]),congrArg (λq=>some (i64 q)) oM,trivial⟩ ⟨rfl,congrArg (λq=>some (Mem.arr 35 ptE 2 q)) (by rw[if_neg (show ¬(¬f < atS (ze p) i/\f < atS (ze p) i+zP x y) by omega),if_neg (show ¬(f < atS (ze p) i/\atS (ze p) i < t) by omega),if_neg (show ¬(atS (ze p) i < t/\t<=atS (ze p) i+zP x y) by omega)]at key;exact key.symm),trivial⟩,by dsimp only;omega⟩
   ·have c1:¬atS (ze p) i < t:=c1;(iterate 2 refine Ar.o ?_);exact⟨i+1,oM,zL [0,1] ⟨rfl,rfl,rfl,rfl,rfl,congrArg (λq=>some (i64 q)) (by rw[qX,← hx,← hy]),congrArg (λq=>some (i64 q)) oM,trivial⟩ ⟨rfl,congrArg (λq=>some (Mem.arr 35 ptE 2 q)) (by rw[if_neg (show ¬(¬f < atS (ze p) i/\f < atS (ze p) i+zP x y) by omega),if_neg (show ¬(f < atS (ze p) i/\atS (ze p) i < t) by omega),if_neg (show ¬(atS (ze p) i < t/\t<=atS (ze p) i+zP x y) by omega)]at key;exact key.symm),trivial⟩,by dsimp only;omega⟩
 ·have a1:¬atS (ze p) i<=f:=a1;refine⟨λb1=>?_,λb1=>?_⟩
  ·have b1:f < atS (ze p) i:=b1;refine⟨λb2=>?_,λb2=>?_⟩
   ·have b2:atS (ze p) i < t:=b2;refine Ar.o<|Ob.o ?_;intro x' hx';have hx':=hxs x' hx';rw[hx'];have s2:=zgt (zdb (ze p) f t i) x;refine zb.fresh _ _ (zfD (zdb (ze p) f t i) x oM) rfl (λ_ _=>rfl) (.inr (λ_ _=>rfl))<|⟨λc1=>?_,λc1=>?_⟩
    ·have c1:atS (ze p) i < t:=c1;refine Ar.o<|Br.mk (λc2=>?_) (λc2=>?_)
     ·have c2:t<=atS (ze p) i+zP x y:=c2;refine Dr.d<|Ar.o<|Ob.o ?_;intro x' hx';have hx':=hxs x' hx';refine Ob.o ?_;intro y' hy';have hy':=hys y' hy';rw[hx',hy'];refine Ar.o<|zb.t (zdN x y (t - atS (ze p) i) (zP x y))<|zb.fresh _ _ (zfD (yI (zdb (ze p) f t i) x) (qQ x y (t - atS (ze p) i) (zP x y)) oM) rfl (λ_ _=>rfl) (.inr (λ_ _=>rfl))<|Ob.mk (by kernel_rfl) ?_;(iterate 2 refine Ar.o ?_)
      exact⟨i+1,oM,zL [0,3] ⟨rfl,rfl,rfl,rfl,rfl,congrArg (λq=>some (i64 q)) (by rw[qX,← hx,← hy]),congrArg (λq=>some (i64 q)) oM,trivial⟩ ⟨rfl,congrArg (λq=>some (Mem.arr 35 ptE 2 q)) (by rw[if_neg (show ¬(¬f < atS (ze p) i/\f < atS (ze p) i+zP x y) by omega),if_pos (show f < atS (ze p) i/\atS (ze p) i < t by omega),if_pos (show atS (ze p) i < t/\t<=atS (ze p) i+zP x y by omega)]at key;exact key.symm),trivial⟩,by dsimp only;omega⟩
     ·have c2:¬t<=atS (ze p) i+zP x y:=c2;(iterate 2 refine Ar.o ?_);exact⟨i+1,oM,zL [0,2] ⟨rfl,rfl,rfl,rfl,rfl,congrArg (λq=>some (i64 q)) (by rw[qX,← hx,← hy]),congrArg (λq=>some (i64 q)) oM,trivial⟩ ⟨rfl,congrArg (λq=>some (Mem.arr 35 ptE 2 q)) (by rw[if_neg (show ¬(¬f < atS (ze p) i/\f < atS (ze p) i+zP x y) by omega),if_pos (show f < atS (ze p) i/\atS (ze p) i < t by omega),if_neg (show ¬(atS (ze p) i < t/\t<=atS (ze p) i+zP x y) by omega)]at key;exact key.symm),trivial⟩,by dsimp only;omega⟩
    ·have c1:¬atS (ze p) i < t:=c1;(iterate 2 refine Ar.o ?_);exact⟨i+1,oM,zL [0,2] ⟨rfl,rfl,rfl,rfl,rfl,congrArg (λq=>some (i64 q)) (by rw[qX,← hx,← hy]),congrArg (λq=>some (i64 q)) oM,trivial⟩ ⟨rfl,congrArg (λq=>some (Mem.arr 35 ptE 2 q)) (by rw[if_neg (show ¬(¬f < atS (ze p) i/\f < atS (ze p) i+zP x y) by omega),if_pos (show f < atS (ze p) i/\atS (ze p) i < t by omega),if_neg (show ¬(atS (ze p) i < t/\t<=atS (ze p) i+zP x y) by omega)]at key;exact key.symm),trivial⟩,by dsimp only;omega⟩
   ·have b2:¬atS (ze p) i < t:=b2;refine⟨λc1=>?_,λc1=>?_⟩
    ·have c1:atS (ze p) i < t:=c1;refine Ar.o<|Br.mk (λc2=>?_) (λc2=>?_)
     ·have c2:t<=atS (ze p) i+zP x y:=c2;refine Dr.d<|Ar.o<|Ob.o ?_;intro x' hx';have hx':=hxs x' hx';refine Ob.o ?_;intro y' hy';have hy':=hys y' hy';rw[hx',hy'];refine Ar.o<|zb.t (zdN x y (t - atS (ze p) i) (zP x y))<|zb.fresh _ _ (zfD (zdb (ze p) f t i) (qQ x y (t - atS (ze p) i) (zP x y)) oM) rfl (λ_ _=>rfl) (.inr (λ_ _=>rfl))<|Ob.mk (by kernel_rfl) ?_;(iterate 2 refine Ar.o ?_)
      exact⟨i+1,oM,zL [0,2] ⟨rfl,rfl,rfl,rfl,rfl,congrArg (λq=>some (i64 q)) (by rw[qX,← hx,← hy]),congrArg (λq=>some (i64 q)) oM,trivial⟩ ⟨rfl,congrArg (λq=>some (Mem.arr 35 ptE 2 q)) (by rw[if_neg (show ¬(¬f < atS (ze p) i/\f < atS (ze p) i+zP x y) by omega),if_neg (show ¬(f < atS (ze p) i/\atS (ze p) i < t) by omega),if_pos (show atS (ze p) i < t/\t<=atS (ze p) i+zP x y by omega)]at key;exact key.symm),trivial⟩,by dsimp only;omega⟩
     ·have c2:¬t<=atS (ze p) i+zP x y:=c2;(iterate 2 refine Ar.o ?_);exact⟨i+1,oM,zL [0,1] ⟨rfl,rfl,rfl,rfl,rfl,congrArg (λq=>some (i64 q)) (by rw[qX,← hx,← hy]),congrArg (λq=>some (i64 q)) oM,trivial⟩ ⟨rfl,congrArg (λq=>some (Mem.arr 35 ptE 2 q)) (by rw[if_neg (show ¬(¬f < atS (ze p) i/\f < atS (ze p) i+zP x y) by omega),if_neg (show ¬(f < atS (ze p) i/\atS (ze p) i < t) by omega),if_neg (show ¬(atS (ze p) i < t/\t<=atS (ze p) i+zP x y) by omega)]at key;exact key.symm),trivial⟩,by dsimp only;omega⟩
    ·have c1:¬atS (ze p) i < t:=c1;(iterate 2 refine Ar.o ?_);exact⟨i+1,oM,zL [0,1] ⟨rfl,rfl,rfl,rfl,rfl,congrArg (λq=>some (i64 q)) (by rw[qX,← hx,← hy]),congrArg (λq=>some (i64 q)) oM,trivial⟩ ⟨rfl,congrArg (λq=>some (Mem.arr 35 ptE 2 q)) (by rw[if_neg (show ¬(¬f < atS (ze p) i/\f < atS (ze p) i+zP x y) by omega),if_neg (show ¬(f < atS (ze p) i/\atS (ze p) i < t) by omega),if_neg (show ¬(atS (ze p) i < t/\t<=atS (ze p) i+zP x y) by omega)]at key;exact key.symm),trivial⟩,by dsimp only;omega⟩
  ·have b1:¬f < atS (ze p) i:=b1;refine⟨λc1=>?_,λc1=>?_⟩
   ·have c1:atS (ze p) i < t:=c1;refine Ar.o<|Br.mk (λc2=>?_) (λc2=>?_)
    ·have c2:t<=atS (ze p) i+zP x y:=c2;refine Dr.d<|Ar.o<|Ob.o ?_;intro x' hx';have hx':=hxs x' hx';refine Ob.o ?_;intro y' hy';have hy':=hys y' hy';rw[hx',hy'];refine Ar.o<|zb.t (zdN x y (t - atS (ze p) i) (zP x y))<|zb.fresh _ _ (zfD (zdb (ze p) f t i) (qQ x y (t - atS (ze p) i) (zP x y)) oM) rfl (λ_ _=>rfl) (.inr (λ_ _=>rfl))<|Ob.mk (by kernel_rfl) ?_;(iterate 2 refine Ar.o ?_)
     exact⟨i+1,oM,zL [0,2] ⟨rfl,rfl,rfl,rfl,rfl,congrArg (λq=>some (i64 q)) (by rw[qX,← hx,← hy]),congrArg (λq=>some (i64 q)) oM,trivial⟩ ⟨rfl,congrArg (λq=>some (Mem.arr 35 ptE 2 q)) (by rw[if_neg (show ¬(¬f < atS (ze p) i/\f < atS (ze p) i+zP x y) by omega),if_neg (show ¬(f < atS (ze p) i/\atS (ze p) i < t) by omega),if_pos (show atS (ze p) i < t/\t<=atS (ze p) i+zP x y by omega)]at key;exact key.symm),trivial⟩,by dsimp only;omega⟩
    ·have c2:¬t<=atS (ze p) i+zP x y:=c2;(iterate 2 refine Ar.o ?_);exact⟨i+1,oM,zL [0,1] ⟨rfl,rfl,rfl,rfl,rfl,congrArg (λq=>some (i64 q)) (by rw[qX,← hx,← hy]),congrArg (λq=>some (i64 q)) oM,trivial⟩ ⟨rfl,congrArg (λq=>some (Mem.arr 35 ptE 2 q)) (by rw[if_neg (show ¬(¬f < atS (ze p) i/\f < atS (ze p) i+zP x y) by omega),if_neg (show ¬(f < atS (ze p) i/\atS (ze p) i < t) by omega),if_neg (show ¬(atS (ze p) i < t/\t<=atS (ze p) i+zP x y) by omega)]at key;exact key.symm),trivial⟩,by dsimp only;omega⟩
   ·have c1:¬atS (ze p) i < t:=c1;(iterate 2 refine Ar.o ?_);exact⟨i+1,oM,zL [0,1] ⟨rfl,rfl,rfl,rfl,rfl,congrArg (λq=>some (i64 q)) (by rw[qX,← hx,← hy]),congrArg (λq=>some (i64 q)) oM,trivial⟩ ⟨rfl,congrArg (λq=>some (Mem.arr 35 ptE 2 q)) (by rw[if_neg (show ¬(¬f < atS (ze p) i/\f < atS (ze p) i+zP x y) by omega),if_neg (show ¬(f < atS (ze p) i/\atS (ze p) i < t) by omega),if_neg (show ¬(atS (ze p) i < t/\t<=atS (ze p) i+zP x y) by omega)]at key;exact key.symm),trivial⟩,by dsimp only;omega⟩
variable{pen:Pen}
theorem zvr{long:Int}{q:Nat×Nat}(h:q∈kU pen long)(h1:q.1=0)(h2:(q.2:Int)=long):kU pen long=[q]:=by
 unfold kU at h ⊢
 split at h
 ·cases h
 ·rename_i k;rw[if_neg k]
  split at h
  ·rename_i k2;rw[if_pos k2];have:=Xq.1 h;rw[this]
  ·rename_i k2;rw[if_neg k2];exact zzT h h1 oM
def zlq(p:Pl)(q:Nat×Nat):Pl:=⟨vo (ze p) q.1 q.2,false⟩
theorem zyq(h:¬(p.cl=true/\qS pen (zK p)=[(0,(zK p).toNat)]))(hR:qS pen (zK p)=kU pen (zK p)):
  (kU pen (zK p)).map (ye p)=(kU pen (zK p)).map (zlq p):=by
 refine Qv λq hq=>?_
 unfold ye;refine if_neg λk=>h ⟨k.1,?_⟩
 rw[hR,zvr hq k.2.1 k.2.2,← k.2.1,show(zK p).toNat=q.2 by omega]
def zd2(p:Pl)(pen:Pen)(j:Nat):Nat:=jt (((qS pen (zK p)).take j).map (zlq p))
variable{j:Nat}
theorem zvs{y:Nat×Nat}(h:(qS pen (zK p))[j]? =some y):zd2 p pen (j+1)=zd2 p pen j+(zlq p y).pts.length:=by
 unfold zd2;rw[Xm,h,XG,zgE];show _+jt [zlq p y]=_;unfold jt;simp
theorem zAm(p:Pl)(pen:Pen)(j:Nat):zd2 p pen j<=jt ((qS pen (zK p)).map (zlq p)):=by
 have e:(qS pen (zK p)).map (zlq p)=((qS pen (zK p)).take j).map (zlq p)++((qS pen (zK p)).drop j).map (zlq p):=by
  rw[← XG,Ki]
 rw[e,zgE];exact Jp _ _
theorem zAn(p:Pl)(pen:Pen)(j:Nat):((qS pen (zK p)).take j).length<=zd2 p pen j:=by
 have:=zeG (l:=((qS pen (zK p)).take j).map (zlq p)) λx hx=>by
  obtain⟨q,hq,rfl⟩:=XO.1 hx;exact(zoa (ze p) q.1 q.2).1
 rwa [Xz]at this
theorem zCN(p:Pl)(pen:Pen)(hp:p.pts.length<=4096):CG0 62 [.agg (plE p),.agg (jo pen)] [] (zn0 (jB p pen)) []:=by
 refine zc Tryz.func62 ?_
 have es:jB p pen=if ¬kI pen then([],13) else if ¬∀q∈p.pts,zn q then([],6) else if 4096 < p.pts.length then([],5)
  else if pen.d=[] then([zu p],0) else if 4096 < jt ((kU pen (zK p)).map (ye p)) then([],5) else((kU pen (zK p)).map (ye p),0):=rfl
 refine zb.t (zcJ pen)<|⟨λk=>?_,λk=>?_⟩
 ·have k:¬kI pen:=k;exact jw (by rw[es,if_pos k])
 have k:kI pen:=Xa.1 k;rw[kQ k]at es;refine zb.t (ztG p.pts)<|⟨λok=>?_,λok=>?_⟩
 ·have ok:¬∀q∈p.pts,zn q:=ok;exact jw (by rw[es,if_pos ok])
 have ok:∀q∈p.pts,zn q:=Xa.1 ok;rw[kQ ok,if_neg (show ¬4096 < p.pts.length by omega)]at es;intro hl1;refine⟨λh=>absurd (show(4096:Int) < p.pts.length from h) oM,λ_=>?_⟩;have lr:=zfA p hp;have dl:=jx p;have ll:=jM (zu p);rw[← yP]at ll;refine zb.t (zqv p hp ok)<|zb.t (zCM pen (zK p) k oM) ?_;have hr:=zqx pen (zK p);have rl:=zfC (qS pen (zK p));intro hl2
 have whole:pen.d=[]∨(p.cl=true/\qS pen (zK p)=[(0,(zK p).toNat)])->jB p pen=([zu p],0):=λh=>by
  by_cases z:pen.d=[]
  ·rw[es,if_pos z]
  ·obtain⟨c,e⟩:=h.resolve_left z
   have eP:kU pen (zK p)=[(0,(zK p).toNat)]:=by
    rcases hr.1 with h | h
    ·rw[← h,e]
    ·rw[e]at h;exact absurd h.1 (by simp)
   have q1:=hr.2 (0,(zK p).toNat) (by rw[e];exact .head _)
   have ed:(kU pen (zK p)).map (ye p)=[zu p]:=by
    rw[eP];show[ye p (0,(zK p).toNat)]=_;unfold ye;rw[if_pos ⟨c,rfl,by dsimp only;omega⟩]
   rw[es,if_neg z,ed,if_neg];unfold jt;simp;omega
 have W:LE (.tup [.sl plE [zu p],i64 0]) (zn0 ([zu p],0)):=.refl;refine⟨λz=>?_,λz=>?_⟩
 ·have z:(pen.d.length:Int)=0:=z;have z:pen.d=[]:=Xn oM;refine zb.t (ziQ p hp)<|⟨Pl,plE,[zu p],rfl,Ob.o0 ?_⟩;rw[whole (.inl z)];exact W
 have z:¬(pen.d.length:Int)=0:=z;rw[if_neg (λh=>z (by rw[h];rfl))]at es
 have hq0:∀u,(rI (qS pen (zK p)))[0]? =some u->((rI (qS pen (zK p))).length:Int)=1->(u.1=0/\u.2=zK p↔qS pen (zK p)=[(0,(zK p).toNat)]):=λu hu n1=>by
  obtain⟨q,hq,huq⟩:=ztJ hu;have n1:(qS pen (zK p)).length=1:=oM;obtain⟨q',hq'⟩:=J5.1 n1;rw[hq']at hq ⊢
  cases hq
  constructor
  ·rintro⟨a,b⟩
   rw[huq]at a b;dsimp only at a b;rw[show q=(q.1,q.2) from rfl,show q.1=0 by omega,show q.2=(zK p).toNat by omega]
  ·intro h;have e:q=(0,(zK p).toNat):=List.singleton_inj.1 h;rw[huq,e];exact⟨rfl,by dsimp only;omega⟩
 refine⟨λc=>λhl3=>Br.mk (λn1=>Ob.mk (by have n1:((rI (qS pen (zK p))).length:Int)=1:=n1;omega) λu hu=>Br.mk (λe=>?_) (λe=>?_)) (λn1=>?_),λc=>?_⟩
 ·have e:u.1=0/\u.2=zK p/\True:=e;refine zb.t (ziQ p hp)<|⟨Pl,plE,[zu p],rfl,Ob.o0 ?_⟩;rw[whole (.inr ⟨c,(hq0 u hu n1).1 ⟨e.1,e.2.1⟩⟩)];exact W
 all_goals
  have hnw:¬(p.cl=true/\qS pen (zK p)=[(0,(zK p).toNat)]):=by
   first
   | exact λh=>e ⟨((hq0 u hu n1).2 h.2).1,((hq0 u hu n1).2 h.2).2,trivial⟩
   | exact λh=>n1 (show((rI (qS pen (zK p))).length:Int)=1 by rw[zfC,h.2];rfl)
   | exact λh=>c h.1
  have ed:=zyq hnw
  have bad:∀i,4096 < zd2 p pen i->jB p pen=([],5):=λi h=>by
   rw[es,if_pos ?_]
   rcases hr.1 with hR | hR
   ·rw[ed hR,← hR];exact Xr h (zAm p pen i)
   ·have:=zeG (l:=(kU pen (zK p)).map (ye p)) λx hx=>by
     obtain⟨q,hq,rfl⟩:=XO.1 hx;exact(zeF hp hq).1
    rw[Xz]at this;omega
  refine⟨Pl,plE,[],rfl,Ob.o2 ?_⟩;refine⟨Nat,λi=>⟨[(2,.loc 0 0),(7,.sl zcT (rI (qS pen (zK p)))),(8,.own 1),(9,i64 (zd2 p pen i:Int)),(10,i64 (i:Int))],[(0,.box 118 [.sl ptE p.pts,pr (p.cl=true)]),(1,.arr 118 plE 2 (((qS pen (zK p)).take i).map (zlq p)))],2,83,0⟩,λi=>i<=(qS pen (zK p)).length/\zd2 p pen i<=4096,λi=>(qS pen (zK p)).length - i,0,?_,?_,?_⟩
  ·exact⟨Xe _,Xe _⟩
  ·exact zf [0,2]
  rintro i ⟨h1,h2⟩
  have cg:=zAn p pen i;intro hl4;refine⟨λg=>?_,λg=>?_⟩;rotate_left
  ·have g:¬(i:Int) < ((rI (qS pen (zK p))).length:Int):=g;have et:(qS pen (zK p)).take i=qS pen (zK p):=Xf oM;have hR:=hr.1.resolve_right λh=>by rw[et]at cg;omega
   unfold zd2 at h2;rw[et,hR,← ed hR]at h2;rw[es,if_neg oM];exact zI (z9 (by rw[et,hR,ed hR])) .refl
  have g:(i:Int) < ((rI (qS pen (zK p))).length:Int):=g;refine Dr.d<|Ob.o ?_;intro z hz;obtain⟨q,hq,hzq⟩:=ztJ (show(rI (qS pen (zK p)))[i]? =some z from hz);refine Ob.o ?_;intro z' hz';have hzz:z'=z:=Xi (hz'.symm.trans hz);rw[hzz];have f:=hr.2 q (Xd hq);have cs:=zvs hq;have cl:=zoa (ze p) q.1 q.2;have ez1:z.1=(q.1:Int):=by rw[hzq]
  have ez2:z.2=(q.2:Int):=by rw[hzq]
  have ez:vo (ze p) z.1 z.2=vo (ze p) q.1 q.2:=by rw[ez1,ez2]
  refine zb.t (zAl p z.1 z.2 hp ok oM oM oM)<|Ob.mk (by kernel_rfl) ?_;have cs:zd2 p pen (i+1)=zd2 p pen i+(vo (ze p) z.1 z.2).length:=by rw[ez];exact cs
  rw[← ez]at cl;intro hl5;refine Ar.fit (show -9223372036854775808<=(zd2 p pen i:Int)+((vo (ze p) z.1 z.2).length:Int)/\(zd2 p pen i:Int)+((vo (ze p) z.1 z.2).length:Int)<=9223372036854775807 by omega)<|⟨λo=>?_,λo=>?_⟩
  ·have o:(4096:Int) < (zd2 p pen i:Int)+((vo (ze p) z.1 z.2).length:Int):=o;exact jw (bad (i+1) oM)
  have o:¬(4096:Int) < (zd2 p pen i:Int)+((vo (ze p) z.1 z.2).length:Int):=o;refine⟨Pl,plE,[⟨vo (ze p) z.1 z.2,false⟩],rfl,Ob.o0 ?_⟩;refine⟨[⟨vo (ze p) z.1 z.2,false⟩],rfl,Ob.mk ⟨(by show _*(32:Int)<=_;simp only[Xz,Xl,Xs];omega),(by simp only[Xz,Xl,Xs];omega),dC,λ_ _=>rfl⟩ ?_⟩;refine Ar.o ?_
  exact⟨i+1,⟨oM,oM⟩,zL [0,4] ⟨rfl,rfl,rfl,congrArg (λn=>some (i64 n)) (show(zd2 p pen i:Int)+((vo (ze p) z.1 z.2).length:Int)=((zd2 p pen (i+1):Nat):Int) by omega),rfl,trivial⟩ ⟨rfl,congrArg (λq=>some (Mem.arr 118 plE 2 q)) (by rw[Xm,hq,XG,ez];rfl),trivial⟩,by dsimp only;omega⟩
def jD:List Pl->Pen->List Pl×Int
 | [],_=>([],0)
 | p::r,pen=>if (jB p pen).2≠0 then([],(jB p pen).2)
  else if (jD r pen).2≠0 then([],(jD r pen).2) else((jB p pen).1++(jD r pen).1,0)
def zcU(l:List Pl)(pen:Pen):List Pl:=l.flatMap λp=>(jB p pen).1
theorem zmD{l:List Pl}{x:Pl}(h:l[i]? =some x):zcU (l.take (i+1)) pen=zcU (l.take i) pen++(jB x pen).1:=by
 unfold zcU;rw[Xm,h,Qc];simp
theorem zkG{pen:Pen}:∀{l:List Pl},(∀p∈l,(jB p pen).2=0)->jD l pen=(zcU l pen,0)
 | [],_=>rfl
 | p::r,h=>by
  have ih:=zkG λq hq=>h q (.tail _ hq)
  unfold jD;rw[qR (h p (.head _)),ih];rfl
theorem zhI{pen:Pen}:∀{l:List Pl} {i:Nat} {x:Pl},l[i]? =some x->(∀p∈l.take i,(jB p pen).2=0)->¬(jB x pen).2=0->jD l pen=([],(jB x pen).2)
 | p::r,0,x,h,_,hx=>by
  cases h
  unfold jD;rw[if_pos hx]
 | p::r,i+1,x,h,ha,hx=>by
  have ih:=zhI (l:=r) (i:=i) h (λq hq=>ha q (by rw[Kk];exact .tail _ hq)) hx;unfold jD;rw[qR (ha p (by rw[Kk];exact .head _)),ih];exact if_pos hx
theorem zkH:∀{l:List Pl} {q:Pl},q∈l->q.pts.length<=jt l
 | x::r,q,h=>by
  have e:jt (x::r)=x.pts.length+jt r:=by unfold jt;simp
  rw[e]
  cases h with
  | head=>omega
  | tail _ h=>have:=zkH h;omega
theorem zbE{p:Pl}{pen:Pen}(hp:p.pts.length<=4096):(jB p pen).1.length<=4096/\∀q∈(jB p pen).1,q.pts.length<=4096:=by
 unfold jB
 split
 ·exact⟨Xe _,λq hq=>by cases hq⟩
 split
 ·exact⟨Xe _,λq hq=>by cases hq⟩
 split
 ·exact⟨Xe _,λq hq=>by cases hq⟩
 split
 ·refine⟨by show 1<=4096;decide,λq hq=>?_⟩;rw[Xq.1 hq];have:=jx p;omega
 split
 ·exact⟨Xe _,λq hq=>by cases hq⟩
 ·rename_i h
  have hg:=zeG (l:=(kU pen (zK p)).map (ye p)) λx hx=>by
   obtain⟨q,hq,rfl⟩:=XO.1 hx;exact(zeF hp hq).1
  refine⟨by dsimp only;omega,λq hq=>?_⟩;have hq:q∈(kU pen (zK p)).map (ye p):=hq;have:=zkH hq;omega
theorem zfE{pen:Pen}:∀{l:List Pl},(∀p∈l,p.pts.length<=4096)->(zcU l pen).length<=4096*l.length/\∀q∈zcU l pen,q.pts.length<=4096
 | [],_=>⟨Xh 0,λq hq=>by cases hq⟩
 | p::r,hl=>by
  obtain⟨i1,i2⟩:=zfE (pen:=pen) (l:=r) λq hq=>hl q (.tail _ hq)
  obtain⟨f1,f2⟩:=zbE (pen:=pen) (hl p (.head _));have e:zcU (p::r) pen=(jB p pen).1++zcU r pen:=rfl;rw[e,Xj,Xl];refine⟨oM,λq hq=>?_⟩
  rcases Xo.1 hq with hq | hq
  ·exact f2 q hq
  ·exact i2 q hq
theorem zCO(l:List Pl)(pen:Pen)(hl:l.length<=4096)(hp:∀q∈l,q.pts.length<=4096):CG0 122 [.sl plE l,.agg (jo pen)] [] (zn0 (jD l pen)) []:=by
 refine zc Tryz.func122 ?_;intro hl1;refine⟨Nat,λi=>⟨[(3,.loc 0 0),(6,.own 1),(11,.sl plE l),(12,i64 (l.length:Int)),(13,i64 (i:Int))],[(0,.box 50 (jo pen)),(1,.arr 118 plE 2 (zcU (l.take i) pen))],2,31,0⟩,λi=>i<=l.length/\∀q∈l.take i,(jB q pen).2=0,λi=>l.length - i,0,?_,?_,?_⟩
 ·exact⟨Xe _,λq hq=>by cases hq⟩
 ·exact zE [(0,some 0),(1,none)]
 rintro i ⟨h1,h2⟩
 obtain⟨f1,_⟩:=zfE (pen:=pen) (l:=l.take i) λq hq=>hp q (XE hq)
 rw[Xk]at f1;refine⟨λg=>?_,λg=>?_⟩
 ·have g:(i:Int) < l.length:=g;refine Ob.o ?_;intro x hx;have hx:l[i]? =some x:=hx;have hpx:=hp x (Xd hx);refine zb.t (zyl x pen hpx)<|⟨λz=>?_,λz=>?_⟩
  ·have z:¬(jB x pen).2=0:=z;exact jw (zhI hx h2 z)
  have z:(jB x pen).2=0:=Xa.1 z;obtain⟨s1,s2⟩:=zbE (pen:=pen) hpx;refine⟨(jB x pen).1,rfl,Ob.o26 ?_⟩;exact Ar.o<|⟨i+1,⟨oM,zgB hx h2 z⟩,zC [0,3] ⟨rfl,congrArg (λq=>some (Mem.arr 118 plE 2 q)) (zmD hx).symm,trivial⟩,by dsimp only;omega⟩
 have g:¬(i:Int) < l.length:=g;have et:l.take i=l:=Xf oM;rw[et]at h2;rw[zkG h2];exact zI (z9 (by rw[et])) .refl
theorem zvu{l:List Sg}{tol:Int}(h:¬(zV l tol).2=0):(zV l tol).1=[]:=by
 unfold zV at h ⊢
 split at h <;> rename_i k1
 ·rw[if_pos k1]
 rw[if_neg k1]
 split at h <;> rename_i k2
 ·rw[if_pos k2]
 rw[if_neg k2]
 split at h <;> rename_i k3
 ·rw[if_pos k3]
 rw[if_neg k3]
 split at h <;> rename_i k4
 ·rw[if_pos k4]
 ·exact absurd rfl h
theorem zam(l:List Sg)(tol:Int):(zV l tol).1.length<=4096/\∀q∈(zV l tol).1,q.pts.length<=4096:=by
 by_cases h:(zV l tol).2=0
 ·have hv:qU l:=by
   refine Xa.1 λk=>?_
   unfold zV at h;rw[if_pos k]at h;exact absurd h dC
  obtain⟨_,_,f3,f4⟩:=zid (lo:=⟨-1048576,-1048576⟩) (hi:=⟨1048576,1048576⟩) h (λp hp=>zxE hv p hp);have hg:=zeG (l:=(zV l tol).1) λx hx=>X5 λe=>(f4 x hx).1 (Xn e)
  exact⟨oM,λq hq=>by have:=zkH hq;omega⟩
 ·rw[zvu h];exact⟨Xe _,λq hq=>by cases hq⟩
theorem zAp(l:List Sg)(t:AF)(tol:Int)(ht:t.le 100000)(hl:l.length<=300):CG0 53 [.sl sgE l,.agg (afE t),i64 tol] [] (rgE (yq l t tol)) []:=by
 refine zmF 2 1 tok mix Tryz.func53 rfl rfl rfl Tryz.func105 rfl rfl<|⟨_,_,rfl,?_⟩;refine⟨_,_,_,_,_,rfl,rfl,rfl,rfl,?_⟩;refine⟨_,rfl,rfl,rfl,?_⟩;refine zb.t (zzU l t ht hl) ?_;have fs:=zam (trans t l).1 tol;refine⟨λe1=>?_,λe1=>?_⟩
 ·have e1:¬(trans t l).2=0:=e1;refine⟨_,.refl,rfl,?_⟩;refine⟨λ_=>?_,λh=>absurd e1 h⟩;exact qP (by unfold yq;rw[if_pos e1])
 have e1:(trans t l).2=0:=Xa.1 e1;refine zb.t (zx2 (trans t l).1 tol)<|Dr.d<|zb.t (zxI (zV (trans t l).1 tol).1 fs.1 fs.2)<|Ob.mk (by kernel_rfl)<|⟨_,.refl,rfl,?_⟩;refine⟨λe2=>?_,λe2=>?_⟩
 ·have e2:¬(zV (trans t l).1 tol).2=0:=e2;exact qP (by unfold yq;rw[qR e1,if_pos e2])
 ·have e2:(zV (trans t l).1 tol).2=0:=Xa.1 e2;have e:yq l t tol=(uk (zV (trans t l).1 tol).1,0):=by unfold yq;rw[qR e1,qR e2]
  rw[e];exact zI .refl (zj e2)
theorem ztN(l:List Sg)(t:AF)(tol:Int)(ht:t.le 100000):CG0 28 [.sl sgE l,.agg (afE t),i64 tol] [] (rgE (yq l t tol)) []:=by
 refine zc Tryz.func28 ?_;refine zb.t (zyr l t ht) ?_;have fs:=zam (trans t l).1 tol;refine⟨λe1=>?_,λe1=>?_⟩
 ·have e1:¬(trans t l).2=0:=e1;exact qP (by unfold yq;rw[if_pos e1])
 have e1:(trans t l).2=0:=Xa.1 e1;refine zb.t (zx3 (trans t l).1 tol)<|⟨λe2=>?_,λe2=>?_⟩
 ·have e2:¬(zV (trans t l).1 tol).2=0:=e2;exact qP (by unfold yq;rw[qR e1,if_pos e2])
 have e2:(zV (trans t l).1 tol).2=0:=Xa.1 e2;refine zb.t (zxJ (zV (trans t l).1 tol).1 fs.1 fs.2) ?_;have e:yq l t tol=(uk (zV (trans t l).1 tol).1,0):=by unfold yq;rw[qR e1,qR e2]
 rw[e];exact .refl
theorem zsd(pen:Pen):(jB ⟨[],false⟩ pen).2=if kI pen then 0 else 13:=by
 have hl:zK ⟨[],false⟩=0:=zpW dC;unfold jB
 by_cases k:kI pen
 ·rw[kQ k,if_pos k,if_neg (show ¬¬∀q∈(⟨[],false⟩:Pl).pts,zn q from λh=>h λq hq=>by cases hq),if_neg (show ¬4096 < (⟨[],false⟩:Pl).pts.length by decide),hl]
  split
  ·rfl
  ·rw[zqq (.inr dC)];rfl
 ·rw[if_pos k,if_neg k]
theorem zAq(pen:Pen):CG0 121 [.agg [.val (.slice none 0 0),.val (.bool false)],.agg (jo pen)] [] (zn0 (jB ⟨[],false⟩ pen)) []:=
 (zyl ⟨[],false⟩ pen (Xe _)).args (.cons (qF (.cons zD (.cons (zd (show ¬(false=true) by decide)) .nil))) (.cons .refl .nil))
theorem zcf:∀{l:List (List Pt)} {r:List Pt},r∈l->r.length<=qi l
 | x::s,r,h=>by
  rw[zgA]
  cases h with
  | head=>omega
  | tail _ h=>have:=zcf h;omega
def zdc(t:AF):List Pt->Int
 | []=>0
 | p::r=>if (kv t p).2≠0 then(kv t p).2 else zdc t r
def y4(t:AF)(l:List Pt):List Pt:=l.map λp=>(kv t p).1
def zdd(t:AF):List (List Pt)->Int
 | []=>0
 | r::s=>if zdc t r≠0 then zdc t r else zdd t s
def yl(rs:List (List Pt))(t:AF):List (List Pt)×Int:=
 if ¬kw rs then([],12) else if zdd t rs≠0 then([],zdd t rs) else(rs.map (y4 t),0)
theorem zgI{t:AF}:∀{l:List Pt},(∀p∈l,(kv t p).2=0)->zdc t l=0
 | [],_=>rfl
 | p::r,h=>by unfold zdc;rw[qR (h p (.head _))];exact zgI λq hq=>h q (.tail _ hq)
theorem zgJ{t:AF}:∀{l:List Pt} {i:Nat} {x:Pt},l[i]? =some x->(∀p∈l.take i,(kv t p).2=0)->¬(kv t x).2=0->zdc t l=(kv t x).2
 | p::r,0,x,h,_,hx=>by cases h;unfold zdc;rw[if_pos hx]
 | p::r,i+1,x,h,ha,hx=>by
  unfold zdc;rw[qR (ha p (by rw[Kk];exact .head _))];exact zgJ (l:=r) (i:=i) h (λq hq=>ha q (by rw[Kk];exact .tail _ hq)) hx
theorem zoc{t:AF}:∀{l:List (List Pt)},(∀r∈l,zdc t r=0)->zdd t l=0
 | [],_=>rfl
 | p::r,h=>by unfold zdd;rw[qR (h p (.head _))];exact zoc λq hq=>h q (.tail _ hq)
theorem zgK{t:AF}:∀{l:List (List Pt)} {i:Nat} {x:List Pt},l[i]? =some x->(∀r∈l.take i,zdc t r=0)->¬zdc t x=0->zdd t l=zdc t x
 | p::r,0,x,h,_,hx=>by cases h;unfold zdd;rw[if_pos hx]
 | p::r,i+1,x,h,ha,hx=>by
  unfold zdd;rw[qR (ha p (by rw[Kk];exact .head _))];exact zgK (l:=r) (i:=i) h (λq hq=>ha q (by rw[Kk];exact .tail _ hq)) hx
theorem yC{α:Type}{P:α->Prop}{l:List α}{x:α}(h:l[i]? =some x)(ha:∀p∈l.take i,P p)(hx:P x):∀p∈l.take (i+1),P p:=by
 intro p hp;rw[Xm,h]at hp
 rcases Xo.1 hp with hp | hp
 ·exact ha p hp
 ·simp at hp;rw[hp];exact hx
def yQ(l:List (List Pt)):List (List SV):=l.map zh
theorem vm(l:List (List Pt)):(yQ l).length=l.length:=by unfold yQ;simp
theorem zan{tb:List (Nat×Option Nat)}{l m:List (List Pt)}(e:l=m):
  (yQ m).length=(yQ l).length/\∀(j:Nat) x,(yQ l)[j]? =some x->∃x',(yQ m)[j]? =some x'/\ren.rens tb x=some x':=by
 subst e;refine⟨rfl,λj x hx=>⟨x,hx,?_⟩⟩;unfold yQ at hx;rw[XC]at hx
 cases hy:l[j]? with
 | none=>rw[hy]at hx;cases hx
 | some y=>rw[hy]at hx;cases hx;rfl
theorem zgL{L:List (List Pt)}{q:List Pt}{a:Nat}:∀(i j:Nat) (x':List SV) (s':SV),(yQ (L++[q]))[i]? =some x'->x'[j]? =some s'->∃(x:List SV) (s:SV),(yQ L++[[.own a]])[i]? =some x/\x[j]? =some s/\(s'=s∨(s=.own a/\s'=.sl ptE q)):=by
 intro i j x' s' hx hs;have e:yQ (L++[q])=yQ L++[zh q]:=by unfold yQ;rw[XG];rfl
 rw[e]at hx;generalize yQ L=R at*
 rcases Qo i R.length with h | h | h
 ·rw[XF h]at hx;exact⟨x',s',by rw[XF h];exact hx,hs,.inl rfl⟩
 ·subst h;rw[Qd]at hx
  cases hx
  match j,hs with
  | 0,hs=>cases hs;exact⟨[.own a],.own a,Qd ..,rfl,.inr ⟨rfl,rfl⟩⟩
  | j+1,hs=>cases hs
 ·rw[XD (by simp;omega)]at hx;cases hx
def tS(rs:List (List Pt))(t:AF):Nat->St
 | 0=>⟨[(0,.sl zh rs),(3,.loc 0 0),(6,.val (.slice none 0 0)),(7,i64 ((0:Nat):Int))],[(0,.box 45 (afE t))],1,54,0⟩
 | i+1=>⟨[(0,.sl zh rs),(3,.loc 0 0),(6,.own 1),(7,i64 ((i+1:Nat):Int))],[(0,.box 45 (afE t)),(1,.garr 72 1 (yQ ((rs.take (i+1)).map (y4 t))))],2,54,0⟩
theorem zAr(rs:List (List Pt))(t:AF)(ht:t.le 100000)(hl:rs.length<=100000):CG0 64 [.sl zh rs,.agg (afE t)] [] (.tup [.own 0,i64 (yl rs t).2]) [(0,.arr 72 zh 1 (yl rs t).1)]:=by
 refine zeP tok mix Tryz.func64 rfl rfl rfl ?_
 have bad:∀{e:Int},yl rs t=([],e)->zaX none (.tup [.val (.slice none 0 0),i64 e]) (.tup [.own 0,i64 (yl rs t).2])/\(yl rs t).1=[]:=λ{e} h=>
  ⟨.tup _ _ rfl (zeS.ix (.cons (.nil rfl) (.cons (.le _ _ (zj (by rw[h])) rfl) .nil))).2,by rw[h]⟩
 refine zb.t (zj8 rs)<|⟨λk=>?_,λk=>?_⟩
 ·have k:¬kw rs:=k;have hb:=bad (e:=12) (by unfold yl;rw[if_pos k]);exact⟨_,.refl,none,hb.1,hb.2⟩
 have k:kw rs:=Xa.1 k;have es:yl rs t=if zdd t rs≠0 then([],zdd t rs) else(rs.map (y4 t),0):=by unfold yl;rw[kQ k]
 have hc:qi rs<=4096:=by have:=k.1;omega
 refine⟨Nat,tS rs t,λi=>i<=rs.length/\∀r∈rs.take i,zdc t r=0,λi=>rs.length - i,0,⟨Xe _,λr hr=>by cases hr⟩,?_,?_⟩
 ·exact zf [0]
 rintro(_ | i) ⟨h1,h2⟩
 ·intro hl1;refine⟨λg=>?_,λg=>?_⟩;rotate_left
  ·have g:¬(((0:Nat):Int)) < rs.length:=g;have e0:rs=[]:=Xn oM;have hb:=bad (e:=0) (by rw[es,e0];rfl);exact⟨_,.refl,none,hb.1,hb.2⟩
  have g:((0:Nat):Int) < rs.length:=g;obtain⟨x,hx⟩:∃x,rs[0]? =some x:=⟨_,Xb oM⟩;have hxl:=XB (zcf (Xd hx)) hc;have same:∀{y:List Pt},rs[((0:Nat):Int).toNat]? =some y->y=x:=λh=>Xi ((show rs[0]? =some _ from h).symm.trans hx)
  refine⟨Nat,λj=>⟨[(0,.sl zh rs),(3,.loc 0 0),(6,.val (.slice none 0 0)),(7,i64 ((0:Nat):Int)),(8,.own 1),(9,i64 (j:Int))],[(0,.box 45 (afE t)),(1,.arr 35 ptE 2 (y4 t (x.take j)))],2,54,0⟩,λj=>j<=x.length/\∀p∈x.take j,(kv t p).2=0,λj=>x.length - j,0,⟨Xe _,λp hp=>by cases hp⟩,?_,?_⟩
  ·exact zE [(0,some 0),(1,none)]
  rintro j ⟨j1,j2⟩
  have ml:(y4 t (x.take j)).length<=4096:=by unfold y4;rw[Xz,Xk];omega
  refine Ob.o ?_;intro y hy;rw[same hy];intro hl2;refine⟨λq=>?_,λq=>?_⟩
  ·have q:(j:Int) < x.length:=q;obtain⟨z,hz⟩:∃z,x[j]? =some z:=⟨_,Xb oM⟩;refine Dr.d<|Ob.o ?_;intro y' hy';rw[same hy'];refine Ob.o ?_;intro z' hz';have ez:z'=z:=Xi ((show x[j]? =some z' from hz').symm.trans hz);rw[ez];refine zb.t (zce t z ht)<|Ob.mk (by kernel_rfl)<|⟨λe=>?_,λe=>?_⟩
   ·have e:¬(kv t z).2=0:=e;have eL:=zgJ hz j2 e;have eR:=zgK hx h2 (by rw[eL];exact e);have hb:=bad (e:=(kv t z).2) (by rw[es,eR,eL,if_pos e]);exact⟨_,.refl,none,hb.1,hb.2⟩
   have e:(kv t z).2=0:=Xa.1 e;refine⟨Pt,ptE,[(kv t z).1],rfl,Ob.o0 ?_⟩;refine⟨[(kv t z).1],rfl,Ob.o3 ?_⟩;exact Ar.o<|⟨j+1,⟨oM,yC hz j2 e⟩,zC [0,4] ⟨rfl,congrArg (λq=>some (Mem.arr 35 ptE 2 q)) (by unfold y4;rw[Xm,hz,XG];rfl),trivial⟩,by dsimp only;omega⟩
  have q:¬(j:Int) < x.length:=q;have etx:x.take j=x:=Xf oM;rw[etx]at j2;refine⟨[[.own 1]],rfl,Ob.o8 ?_⟩;refine Ob.o27<|Ar.o<|⟨0+1,⟨oM,yC hx h2 (zgI j2)⟩,(zby (sz0:=1) (T0:=72) 1 3 (enc:=ptE) (ys:=y4 t (x.take j)) rfl rfl (xs':=yQ ([]++[y4 t (x.take j)])) (by rfl) (λz hz=>?_) zgL).trans (zC [0,3] ⟨rfl,⟨_,rfl,zan ?_⟩,trivial⟩),by dsimp only;omega⟩
  ·unfold yQ at hz;obtain⟨b,_,rfl⟩:=XO.1 hz;rfl
  ·rw[etx];rw[Xm,hx];rfl
 ·intro hl1;refine⟨λg=>?_,λg=>?_⟩;rotate_left
  ·have g:¬((i+1:Nat):Int) < rs.length:=g;have et:rs.take (i+1)=rs:=Xf oM;rw[et]at h2;have er:yl rs t=(rs.map (y4 t),0):=by rw[es,zoc h2];rfl
   refine⟨_,zf3 1 zh ((rs.take (i+1)).map (y4 t)) rfl (λ_ _=>rfl),some 1,.tup _ _ rfl (zeS.ix (.cons (.own 1 rfl) (.cons (.le _ _ (zj (by rw[er])) rfl) .nil))).2,congrArg (λq=>some (Mem.arr 72 zh 1 q)) (by rw[er,et]),λ_ _=>rfl⟩
  have g:(((i+1):Nat):Int) < rs.length:=g;obtain⟨x,hx⟩:∃x,rs[(i+1)]? =some x:=⟨_,Xb oM⟩;have hxl:=XB (zcf (Xd hx)) hc;have same:∀{y:List Pt},rs[(((i+1):Nat):Int).toNat]? =some y->y=x:=λh=>Xi ((show rs[(i+1)]? =some _ from h).symm.trans hx)
  refine⟨Nat,λj=>⟨[(0,.sl zh rs),(3,.loc 0 0),(6,.own 1),(7,i64 (((i+1):Nat):Int)),(8,.own 2),(9,i64 (j:Int))],[(0,.box 45 (afE t)),(1,.garr 72 1 (yQ ((rs.take (i+1)).map (y4 t)))),(2,.arr 35 ptE 2 (y4 t (x.take j)))],3,54,0⟩,λj=>j<=x.length/\∀p∈x.take j,(kv t p).2=0,λj=>x.length - j,0,⟨Xe _,λp hp=>by cases hp⟩,?_,?_⟩
  ·exact zA8 [(0,some 0),(1,some 1),(2,none)] ⟨rfl,⟨_,rfl,zan rfl⟩,rfl,trivial⟩
  rintro j ⟨j1,j2⟩
  have ml:(y4 t (x.take j)).length<=4096:=by unfold y4;rw[Xz,Xk];omega
  refine Ob.o ?_;intro y hy;rw[same hy];intro hl2;refine⟨λq=>?_,λq=>?_⟩
  ·have q:(j:Int) < x.length:=q;obtain⟨z,hz⟩:∃z,x[j]? =some z:=⟨_,Xb oM⟩;refine Dr.d<|Ob.o ?_;intro y' hy';rw[same hy'];refine Ob.o ?_;intro z' hz';have ez:z'=z:=Xi ((show x[j]? =some z' from hz').symm.trans hz);rw[ez];refine zb.t (zce t z ht)<|Ob.mk (by kernel_rfl)<|⟨λe=>?_,λe=>?_⟩
   ·have e:¬(kv t z).2=0:=e;have eL:=zgJ hz j2 e;have eR:=zgK hx h2 (by rw[eL];exact e);have hb:=bad (e:=(kv t z).2) (by rw[es,eR,eL,if_pos e]);exact⟨_,.refl,none,hb.1,hb.2⟩
   have e:(kv t z).2=0:=Xa.1 e;refine⟨Pt,ptE,[(kv t z).1],rfl,Ob.o0 ?_⟩;refine⟨[(kv t z).1],rfl,Ob.o3 ?_⟩;exact Ar.o<|⟨j+1,⟨oM,yC hz j2 e⟩,zC [0,1,5] ⟨rfl,⟨_,rfl,zan rfl⟩,congrArg (λq=>some (Mem.arr 35 ptE 2 q)) (by unfold y4;rw[Xm,hz,XG];rfl),trivial⟩,by dsimp only;omega⟩
  have q:¬(j:Int) < x.length:=q;have etx:x.take j=x:=Xf oM;rw[etx]at j2;refine⟨[[.own 2]],rfl,Ob.o8 ?_⟩;refine Ob.mk ⟨by show _*(24:Int)<=_;rw[vm,Xz,Xk];simp only[Xl,Xs];omega,by rw[vm,Xz,Xk];simp only[Xl,Xs];omega,dC⟩<|Ar.o ?_
  refine⟨(i+1)+1,⟨oM,yC hx h2 (zgI j2)⟩,(zby (sz0:=1) (T0:=72) 2 4 (enc:=ptE) (ys:=y4 t (x.take j)) rfl rfl (xs':=yQ ((rs.take (i+1)).map (y4 t)++[y4 t (x.take j)])) (by rw[vm,Xj,Xj,vm];rfl) (λz hz=>?_) zgL).trans (zC [0,4] ⟨rfl,⟨_,rfl,zan ?_⟩,trivial⟩),by dsimp only;omega⟩
  ·unfold yQ at hz;obtain⟨b,_,rfl⟩:=XO.1 hz;rfl
  ·rw[etx];rw[Xm (l:=rs) (i:=i+1),hx,XG];rfl
theorem zCQ(rs:List (List Pt))(t:AF)(ht:t.le 100000)(hl:rs.length<=100000):CG0 64 [.sl zh rs,.agg (afE t)] [] (rgE (yl rs t)) []:=(zAr rs t ht hl).plain rfl
def un(l:List AF):AF:=l.foldl beh idA
theorem zfF{l:List AF}{x:AF}(h:l[i]? =some x):un (l.take (i+1))=beh (un (l.take i)) x:=by
 unfold un;rw[Xm,h,KC];rfl
def zod(l:List AF):Prop:=(∀t∈l,t.ok)/\∀i,i < l.length->(un (l.take (i+1))).ok
instance (l:List AF):Decidable (zod l):=inferInstanceAs (Decidable (_/\∀i,i < l.length->_))
def vC(l:List AF):AF×Int:=if zod l then(un l,0) else(qr,5)
theorem zAs:idA.nrm=idA:=by unfold idA AF.nrm afQ;simp only[z6]
theorem zkI{l:List AF}:∀{i:Nat},i<=l.length->(∀k,k < i->(un (l.take (k+1))).ok)->(un (l.take i)).le 8
 | 0,_,_=>znD.up dC
 | i+1,hi,h=>by
  have hk:=h i oM;have hx:l[i]? =some l[i]:=Xb oM;rw[zfF hx]at hk ⊢;exact zuJ hk
theorem zvv(l:List AF):(un l).nrm=un l:=by
 rcases Yh l with rfl | ⟨q,x,rfl⟩
 ·exact zAs
 ·unfold un;rw[List.concat_eq_append,KC];exact znE _ _
theorem zkJ(l:List AF)(hl:∀t∈l,t.le 100):CG0 41 [.sl afE l] [] (.tup [.agg (afE (vC l).1),i64 (vC l).2]) []:=by
 have bad:¬zod l->LE (.tup [.agg yX,i64 5]) (.tup [.agg (afE (vC l).1),i64 (vC l).2]):=λh=>by
  rw[show vC l=(qr,5) from if_neg h];exact zI zaP .refl
 refine zc Tryz.func41 ?_;refine zb.t zrH ?_;intro hl0
 refine⟨Nat,λi=>⟨[(12,i64 (i:Int)),(11,i64 (l.length:Int)),(10,.sl afE l),(4,.loc 1 0),(2,.loc 0 0),(0,.sl afE l)],[(1,.box 45 (afE idA)),(0,.box 45 yX)],2,37,0⟩,
  λi=>i<=l.length/\∀t∈l.take i,t.ok,λi=>l.length - i,0,⟨Xe _,λt ht=>by cases ht⟩,?_,?_⟩
 ·exact zf [0,1]
 rintro i ⟨h1,h2⟩
 refine⟨λg=>?_,λg=>?_⟩
 ·have g:(i:Int) < l.length:=g;refine Ob.o ?_;intro x hx;have hx:l[i]? =some x:=hx;have hm:=Xd hx;refine zb.t (zcD x ((hl x hm).up dC))<|⟨λh=>bad λk=>h (k.1 x hm),λh=>?_⟩;exact Ar.o<|⟨i+1,⟨oM,yC hx h2 (Xa.1 h)⟩,zf [0,1],by dsimp only;omega⟩
 have g:¬(i:Int) < l.length:=g;rw[Xf oM]at h2;intro hl1
 refine⟨Nat,λi=>⟨[(23,i64 (i:Int)),(22,i64 (l.length:Int)),(21,.sl afE l),(4,.loc 1 0),(2,.loc 0 0)],[(1,.box 45 (afE (un (l.take i)))),(0,.box 45 yX)],2,37,0⟩,
  λi=>i<=l.length/\∀k,k < i->(un (l.take (k+1))).ok,λi=>l.length - i,0,⟨Xe _,λk h=>by omega⟩,?_,?_⟩
 ·exact zf [0,1]
 rintro j ⟨j1,j2⟩
 have lj:=zkI j1 j2;refine⟨λg=>?_,λg=>?_⟩
 ·have g:(j:Int) < l.length:=g;refine Ob.o ?_;intro x hx;have hx:l[j]? =some x:=hx;have hm:=Xd hx;have e:=zfF hx;refine zb.t (zw2 (un (l.take j)) x (lj.up dC) ((hl x hm).up dC))<|zb.t (zcD (beh (un (l.take j)) x) ((zw3 (n:=100) (lj.up dC) (hl x hm)).up dC))<|⟨λh=>bad λk=>h (by rw[← e];exact k.2 j oM),λh=>?_⟩;have h:(beh (un (l.take j)) x).ok:=Xa.1 h;refine Ar.o ?_
  refine⟨j+1,⟨oM,λk hk=>?_⟩,zC [0,1] ⟨congrArg (λq=>some (Mem.box 45 (afE q))) e.symm,rfl,trivial⟩,by dsimp only;omega⟩
  by_cases c:k=j
  ·rw[c,e];exact h
  ·exact j2 k oM
 have g:¬(j:Int) < l.length:=g;have et:l.take j=l:=Xf oM;refine zb.t (zh5 (un (l.take j)) (lj.up dC)) ?_;rw[zvv];have ef:vC l=(un (l.take j),0):=by rw[et];exact if_pos ⟨h2,λk hk=>j2 k oM⟩
 rw[ef];exact zI .refl .refl
theorem zoe(l:List AF)(hl:∀t∈l,t.le 100):CG0 56 [.sl afE l] [] (.tup [.agg (afE (vC l).1),i64 (vC l).2]) []:=by
 have bad:¬zod l->LE (.tup [.agg yX,i64 5]) (.tup [.agg (afE (vC l).1),i64 (vC l).2]):=λh=>by
  rw[show vC l=(qr,5) from if_neg h];exact zI zaP .refl
 refine zc Tryz.func56 ?_;refine zb.t zge ?_
 refine⟨Nat,λi=>⟨[(5,i64 (i:Int)),(4,.loc 1 0),(2,.loc 0 0),(0,.sl afE l)],[(1,.box 45 (afE (un (l.take i)))),(0,.box 45 yX)],2,31,0⟩,
  λi=>i<=l.length/\(∀t∈l.take i,t.ok)/\∀k,k < i->(un (l.take (k+1))).ok,λi=>l.length - i,0,⟨Xe _,(λt ht=>by cases ht),λk h=>by omega⟩,?_,?_⟩
 ·exact zf [0,1]
 rintro j ⟨j1,j0,j2⟩
 have lj:=zkI j1 j2;intro hl1;refine⟨λg=>?_,λg=>?_⟩
 ·have g:(j:Int) < l.length:=g;refine Ob.o ?_;intro x hx;have hx:l[j]? =some x:=hx;have hm:=Xd hx;have e:=zfF hx;refine zb.t (zb3 x ((hl x hm).up dC))<|⟨λh=>bad λk=>h (k.1 x hm),λh=>?_⟩;refine Dr.k<|Ob.o ?_;intro y hy;have ey:y=x:=Xi ((show l[j]? =some y from hy).symm.trans hx);rw[ey];refine zb.t (zpw (un (l.take j)) x (lj.up dC) ((hl x hm).up dC))<|zb.t (zb3 (beh (un (l.take j)) x) ((zw3 (n:=100) (lj.up dC) (hl x hm)).up dC)) ?_
  refine⟨λh=>bad λk=>h (by rw[← e];exact k.2 j oM),λh2=>?_⟩;have h2:(beh (un (l.take j)) x).ok:=Xa.1 h2;refine Ar.o<|⟨j+1,⟨oM,yC hx j0 (Xa.1 h),λk hk=>?_⟩,zC [0,1] ⟨congrArg (λq=>some (Mem.box 45 (afE q))) e.symm,rfl,trivial⟩,by dsimp only;omega⟩
  by_cases c:k=j
  ·rw[c,e];exact h2
  ·exact j2 k oM
 have g:¬(j:Int) < l.length:=g;have et:l.take j=l:=Xf oM;rw[et]at j0;have ef:vC l=(un (l.take j),0):=by rw[et];exact if_pos ⟨j0,λk hk=>j2 k oM⟩
 rw[ef];exact zI .refl .refl
structure Nd where
 id:Int
 k:Int
 d:Int
 t:AF
 clip:List Sg
 cr:Int
 op:Int
 mode:Int
 iso:Bool
 ko:Bool
 path:List Sg
 rule:Int
 fill:List Pnt
 pen:Pen
 strk:List Pnt
 im:Img
 smp:Int
def ndE(n:Nd):List SV:=
 i64 n.id::i64 n.k::i64 n.d::(afE n.t++(.sl sgE n.clip::i64 n.cr::u8 n.op::i64 n.mode::pr (n.iso=true)::pr (n.ko=true)::.sl sgE n.path::i64 n.rule::.sl vf n.fill::
  (jo n.pen++(.sl vf n.strk::(zkK n.im++[i64 n.smp])))))
structure Sc where
 w:Int
 h:Int
 bg:Pix
 ns:List Nd
def scE(s:Sc):List SV:=[i64 s.w,i64 s.h,u8 s.bg.r,u8 s.bg.g,u8 s.bg.b,u8 s.bg.a,.sl ndE s.ns]
def zcg(n:Nd):Prop:=n.op=0/\n.mode=0/\n.iso=false/\n.ko=false
instance (n:Nd):Decidable (zcg n):=inferInstanceAs (Decidable (_/\_))
def uq(p:Pen):Prop:=p.w=0/\p.j=0/\p.c=0/\p.m=0/\p.d=[]/\p.ph=0
instance (p:Pen):Decidable (uq p):=inferInstanceAs (Decidable (_/\_))
def zc5(n:Nd):Prop:=n.path.length=0/\n.rule=0/\n.fill.length=0/\n.strk.length=0
instance (n:Nd):Decidable (zc5 n):=inferInstanceAs (Decidable (_/\_))
def zch(n:Nd):Prop:=n.im.w=0/\n.im.h=0/\n.im.px.length=0/\n.smp=0
instance (n:Nd):Decidable (zch n):=inferInstanceAs (Decidable (_/\_))
def zcV(r:Int):Prop:=r=1∨r=2
instance (r:Int):Decidable (zcV r):=inferInstanceAs (Decidable (_∨_))
def vg(n:Nd):Prop:=(n.clip.length=0/\n.cr=0)∨(0 < n.clip.length/\zcV n.cr)
instance (n:Nd):Decidable (vg n):=inferInstanceAs (Decidable (_∨_))
def zgS(n:Nd):Prop:=vg n/\(if n.k=1 then(zc5 n/\uq n.pen)/\zch n else if n.k=2 then zcg n/\zch n else zcg n/\zc5 n/\uq n.pen)
instance (n:Nd):Decidable (zgS n):=by unfold zgS;infer_instance
def vF(n:Nd):Int:=
 if ¬qU n.path then 10 else if ¬zcV n.rule then 2 else if 1 < n.fill.length∨1 < n.strk.length then 5 else if 0 < n.strk.length/\¬kI n.pen then 13
 else if n.strk.length=0/\¬uq n.pen then 17 else if (¬∀p∈n.fill,vE p)∨¬∀p∈n.strk,vE p then 16 else 0
def ua(n:Nd):Int:=
 if n.k < 1∨3 < n.k then 2 else if n.id < 1∨1073741824 < n.id∨n.d < 0∨8<=n.d then 6 else if ¬n.t.ok then 5 else if yz n.t=0 then 9 else if ¬qU n.clip then 10
 else if ¬zgS n then 17 else if n.k=1 then(if ¬(1<=n.mode/\n.mode<=13) then 2 else 0) else if n.k=2 then vF n
 else if ¬ze4 n.im then 16 else if n.smp≠1/\n.smp≠2 then 2 else 0
def jK(l:List Nd)(i:Nat)(n:Nd):Prop:=match l[i - 1]? with
 | some p=>if i=0 then n.d=0 else(p.k=1/\n.d=p.d+1)∨n.d<=p.d
 | none=>n.d=0
instance (l:List Nd) (i:Nat) (n:Nd):Decidable (jK l i n):=by unfold jK;split <;> infer_instance
def zgT(l:List Nd)(i:Nat)(n:Nd):Int:=
 if ua n≠0 then ua n else if n.id∈(l.take i).map Nd.id then 7 else if ¬jK l i n then 17 else 0
def vL(ds:List Int)(d:Int):Nat->Int
 | 0=> -1
 | k+1=>if ds[k]? =some d then k else vL ds d k
def vp(ds:List Int)(i:Nat):Int:=vL ds (ds.getD i 0 - 1) i
theorem zgU(ds:List Int)(d:Int):∀k,-1<=vL ds d k/\vL ds d k < k/\(0<=vL ds d k->ds[(vL ds d k).toNat]? =some d)
 | 0=>⟨KB _,show(-1:Int) < 0 by decide,λh=>absurd (show(0:Int)<= -1 from h) dC⟩
 | k+1=>by
  have ih:=zgU ds d k;unfold vL
  split
  ·rename_i h;exact⟨oM,oM,λ_=>by simpa using h⟩
  ·exact⟨ih.1,oM,ih.2.2⟩
theorem zmJ{ds:List Int}{d:Int}:∀{k j:Nat},j < k->ds[j]? =some d->0<=vL ds d k
 | k+1,j,hj,h=>by
  unfold vL
  split
  ·omega
  ·rename_i hn
   by_cases e:j=k
   ·subst e;exact absurd h hn
   ·exact zmJ oM h
def zkP(ds:List Int):Prop:=(∀d,ds[0]? =some d->d=0)/\(∀d∈ds,0<=d)/\∀i a b,ds[i]? =some a->ds[i+1]? =some b->b<=a+1
theorem zmK{ds:List Int}(h:zkP ds){e:Int}(he:0<=e):∀{i:Nat} {d:Int},ds[i]? =some d->e < d->∃j,j < i/\ds[j]? =some e
 | 0,d,hd,hl=>by have:=h.1 d hd;omega
 | i+1,d,hd,hl=>by
  obtain⟨a,ha⟩:∃a,ds[i]? =some a:=⟨_,Xb (by have:=(Xc.1 hd).1;omega)⟩;have hs:=h.2.2 i a d ha hd
  by_cases c:a=e
  ·exact⟨i,oM,by rw[ha,c]⟩
  ·obtain⟨j,h1,h2⟩:=zmK h he ha oM;exact⟨j,oM,h2⟩
theorem zgV{ds:List Int}(h:zkP ds){d:Int}(hd:ds[i]? =some d):(d=0->vp ds i= -1)/\(0 < d->∃j:Nat,vp ds i=j/\j < i/\ds[j]? =some (d - 1)):=by
 have hg:ds.getD i 0=d:=by rw[Xt,hd];rfl
 unfold vp;rw[hg];obtain⟨h1,h2,h3⟩:=zgU ds (d - 1) i;refine⟨λe=>?_,λhp=>?_⟩
 ·subst e;refine Int.le_antisymm (Q5.1 λk=>?_) h1;have:=h.2.1 _ (Xd (h3 oM));omega
 ·obtain⟨j,hj,hjd⟩:=zmK h (show 0<=d - 1 by omega) hd oM;have:=zmJ hj hjd;exact⟨(vL ds (d - 1) i).toNat,oM,oM,h3 this⟩
def zfI(ds:List Int):Nat->Int->List Nat
 | 0,_=>[]
 | n+1,i=>if i < 0 then[] else i.toNat::zfI ds n (vp ds i.toNat)
theorem zyC(n:Int):CG0 259 [i64 n] [] (pr (zcV n)) []:=by
 refine zc Tryz.func259 ?_;refine⟨λh=>?_,λh=>?_⟩
 ·exact zR (.inl h)
 ·exact zF ⟨.inr,λk=>k.resolve_left h⟩
theorem zyD(xs ys:List Int):CG0 376 [.sl uS xs,.sl uS ys] [] (pr (xs=ys)) []:=by
 refine zc Tryz.func376 ?_;intro hl1 hl2;refine⟨λh1=>zd λe=>h1 (by rw[e]),λh1=>?_⟩;have h1:=Xa.1 h1;intro hl3;refine⟨Int,λi=>⟨[(13,i64 i),(12,i64 xs.length),(0,.sl uS xs),(1,.sl uS ys)],[],0,26,0⟩,λi=>0<=i/\i<=xs.length/\∀j:Nat,(j:Int) < i->xs[j]? =ys[j]?,λi=>((xs.length:Int) - i).toNat,0,?_,?_,?_⟩
 ·exact⟨oM,oM,λj hj=>by omega⟩
 ·exact zE []
 rintro i ⟨h4,h5,h6⟩
 refine⟨λh7=>?_,λh7=>?_⟩
 ·refine Dr.k<|Ob.o ?_;intro x hx;refine Ob.o ?_;intro y hy;refine⟨λh8=>?_,λh8=>?_⟩
  ·refine zd λe=>h8 ?_
   subst e;rw[hx]at hy;exact Xi hy
  ·refine Ar.o<|⟨i+1,⟨oM,oM,λj hj=>?_⟩,zE [],by dsimp only;omega⟩
   by_cases e:j=i.toNat
   ·subst e;rw[hx,hy,Xa.1 h8]
   ·exact h6 j oM
 ·exact zR (Ke λj=>by
   by_cases hj:(j:Int) < i
   ·exact h6 j hj
   ·rw[XD oM,XD oM])
def zPen:Pen:=⟨0,0,0,0,[],0⟩
theorem zAy:LE (.agg [i64 0,i64 0,i64 0,i64 0,.val (.slice none 0 0),i64 0]) (.agg (jo zPen)):=qF (.cons .refl (.cons .refl (.cons .refl (.cons .refl (.cons zD (.cons .refl .nil))))))
def zImg:Img:=⟨0,0,[]⟩
theorem zAz:LE (.agg [i64 0,i64 0,.val (.slice none 0 0)]) (.agg (zkK zImg)):=qF (.cons .refl (.cons .refl (.cons zD .nil)))
def ziS(a b:Pen):Prop:=a.w=b.w/\a.j=b.j/\a.c=b.c/\a.m=b.m/\a.ph=b.ph/\a.d=b.d
instance (a b:Pen):Decidable (ziS a b):=inferInstanceAs (Decidable (_/\_))
theorem zvA{p:Pen}:ziS p zPen↔uq p:=by
 unfold ziS uq zPen;constructor
 ·rintro⟨h1,h2,h3,h4,h5,h6⟩;exact⟨h1,h2,h3,h4,h6,h5⟩
 ·rintro⟨h1,h2,h3,h4,h5,h6⟩;exact⟨h1,h2,h3,h4,h6,h5⟩
theorem zvB(a b:Pen):CG0 321 [.agg (jo a),.agg (jo b)] [] (pr (ziS a b)) []:=by
 refine zc Tryz.func321 ?_;refine⟨λh1=>?_,λh1=>zd λk=>h1 k.1⟩;refine⟨λh2=>?_,λh2=>zd λk=>h2 k.2.1⟩;refine⟨λh3=>?_,λh3=>zd λk=>h3 k.2.2.1⟩;refine⟨λh4=>?_,λh4=>zd λk=>h4 k.2.2.2.1⟩;refine⟨λh5=>?_,λh5=>zd λk=>h5 k.2.2.2.2.1⟩;exact zb.t (zyD a.d b.d)<|zF ⟨λh=>⟨h1,h2,h3,h4,h5,h⟩,λk=>k.2.2.2.2.2⟩
theorem ztS(a:Pen):CG0 321 [.agg (jo a),.agg [i64 0,i64 0,i64 0,i64 0,.val (.slice none 0 0),i64 0]] [] (pr (uq a)) []:=
 ((zvB a zPen).args (.cons .refl (.cons zAy .nil))).le (zF zvA)
theorem zCV(t:AF)(ht:t.le 10000000):CG0 262 [.agg (afE t)] [] (pr (yz t=0)) []:=by
 refine zc Tryz.func262 ?_;refine zb.t (zh4 t ht) ?_;refine zb.t (yy 0 (by constructor <;> decide)) ?_;have hcmp:=zgc (ofQ (yz t)) (ofQ ((0:Int):Rat)) (by have:=zgR ht;rw[zB];omega) (by decide +kernel);rw[z6,z6]at hcmp;refine zb.t hcmp ?_;exact zF (Ye.1 (uT _))
def uK(l:List Pnt):Prop:=∀p∈l,vE p
instance (l:List Pnt):Decidable (uK l):=inferInstanceAs (Decidable (∀p∈l,_))
def zd5(l:List Pnt):Prop:=∀p∈l,p.t.le 1000/\p.im.px.length<=9223372036854775807
def zsi(l:List Pnt):Int:=match l.findIdx? (λp=>¬vE p) with | some i=>i | none=> -1
theorem zAA{l:List Pnt}{i:Nat}{x:Pnt}(h:∀(j:Nat) q,j < i->l[j]? =some q->vE q)(hx:l[i]? =some x)(hb:¬vE x):zsi l=i:=by
 have:l.findIdx? (λp=>¬vE p)=some i:=by
  rw[KI];have hi:=(Xc.1 hx);refine⟨hi.1,by rw[hi.2];simpa using hb,λj hj=>?_⟩;have:=h j _ hj (Xb (by have:=hi.1;omega))
  simpa using this
 unfold zsi;rw[this]
variable{l:List Pnt}
theorem zmL(h:∀p∈l,vE p):zsi l= -1:=by
 have:l.findIdx? (λp=>¬vE p)=none:=by
  rw[Kt];intro p hp;simpa using h p hp
 unfold zsi;rw[this]
theorem zqF:0<=zsi l↔¬uK l:=by
 by_cases h:uK l
 ·rw[zmL h];exact⟨λk=>by omega,λk=>absurd h k⟩
 ·refine⟨λ_=>h,λ_=>?_⟩;unfold zsi
  cases hf:l.findIdx? (λp=>¬vE p) with
  | some i=>exact Int.natCast_nonneg i
  | none=>rw[Kt]at hf;exact absurd (λp hp=>by simpa using hf p hp) h
theorem zCW(p:Pnt)(hp:p.t.le 1000)(hl:p.im.px.length<=9223372036854775807):CG0 379 [.agg (vf p)] [] (pr (¬vE p)) []:=by
 refine zc Tryz.func379 ?_;exact zb.t (zsh p hp hl)<|zF K7
theorem zAB(xs:List Pnt)(ht:zd5 xs):CG0 396 [.sl vf xs,.fn 379 []] [] (i64 (zsi xs)) []:=by
 refine zc Tryz.func396 ?_;intro hl0;refine⟨Int,λi=>⟨[(8,i64 i),(7,i64 xs.length),(0,.sl vf xs),(1,.fn 379 [])],[],0,19,0⟩,λi=>0<=i/\i<=xs.length/\∀(j:Nat) q,(j:Int) < i->xs[j]? =some q->vE q,λi=>((xs.length:Int) - i).toNat,0,?_,?_,?_⟩
 ·exact⟨oM,oM,λj q hj=>by omega⟩
 ·exact zE []
 rintro i ⟨h1,h2,h3⟩
 refine⟨λh4=>?_,λh4=>?_⟩
 ·refine Ob.o ?_;intro x hx;have hm:=ht x (Xd hx);refine zb.t (zCW x hm.1 hm.2)<|⟨λh5=>?_,λh5=>?_⟩
  ·refine zj ?_;rw[zAA (i:=i.toNat) (λj q hj=>h3 j q oM) hx h5];omega
  ·refine Ar.o<|⟨i+1,⟨oM,oM,λj q hj hq=>?_⟩,zE [],by dsimp only;omega⟩
   by_cases e:j=i.toNat
   ·subst e;rw[hx]at hq;cases hq;exact Xa.1 h5
   ·exact h3 j q oM hq
 ·refine zj (zmL λp hp=>?_).symm;obtain⟨j,hj,he⟩:=Ka hp;exact h3 j p oM (by rw[← he];exact Xb hj)
theorem zsj(xs:List Pnt)(ht:zd5 xs):CG0 378 [.sl vf xs,.fn 379 []] [] (pr (¬uK xs)) []:=by
 refine zc Tryz.func378 ?_;exact zb.t (zAB xs ht)<|zF zqF
theorem zBv(xs:List Pnt)(ht:zd5 xs):CG0 323 [.sl vf xs] [] (pr (uK xs)) []:=by
 refine zc Tryz.func323 ?_;exact zb.t (zsj xs ht)<|zF Xa
def vG(n:Nd):Prop:=if n.k=1 then(zc5 n/\uq n.pen)/\zch n else if n.k=2 then zcg n/\zch n else zcg n/\zc5 n/\uq n.pen
instance (n:Nd):Decidable (vG n):=by unfold vG;infer_instance
theorem zoh{n:Nd}:zch n↔n.im=zImg/\n.smp=0:=by
 unfold zch zImg
 rcases n with⟨id,k,d,t,clip,cr,op,mode,iso,ko,path,rule,fill,pen,strk,⟨w,h,px⟩,smp⟩
 simp only[Img.mk.injEq,XJ];constructor
 ·rintro⟨h1,h2,h3,h4⟩;exact⟨⟨h1,h2,h3⟩,h4⟩
 ·rintro⟨⟨h1,h2,h3⟩,h4⟩;exact⟨h1,h2,h3,h4⟩
theorem zCX(n:Nd):CG0 263 [.agg (ndE n)] [] (pr (vG n)) []:=by
 refine zcz tok Tryz.func263 rfl rfl rfl (zc9.cut tok mix 2 (λ_:Unit=>⟨[(3,pr (zcg n)),(1,.loc 0 0)],[(0,.box 55 (ndE n))],1,78,0⟩) (λ_=>True) ?_ λ_ _=>
  zc9.cut tok mix 1 (λ_:Unit=>⟨[(4,pr (zc5 n/\uq n.pen)),(3,pr (zcg n)),(1,.loc 0 0)],[(0,.box 55 (ndE n))],1,78,0⟩) (λ_=>True) ?_ λ_ _=>
  zc9.cut tok mix 1 (λ_:Unit=>⟨[(5,pr (zch n)),(4,pr (zc5 n/\uq n.pen)),(3,pr (zcg n)),(1,.loc 0 0)],[(0,.box 55 (ndE n))],1,78,0⟩) (λ_=>True) ?_ λ_ _=>zc9.vc tok mix ?_)
 ·refine⟨λh1=>?_,λh1=>⟨(),trivial,(qC (t:=3) rfl (zd λk=>h1 k.1)).trans (qA [(0,some 0)] rfl rfl rfl ⟨rfl,rfl,trivial⟩ ⟨rfl,trivial⟩)⟩⟩;refine⟨λh2=>?_,λh2=>⟨(),trivial,(qC (t:=3) rfl (zd λk=>h2 k.2.1)).trans (qA [(0,some 0)] rfl rfl rfl ⟨rfl,rfl,trivial⟩ ⟨rfl,trivial⟩)⟩⟩;refine⟨λh3=>?_,λh3=>⟨(),trivial,(qC (t:=3) rfl (zd λk=>h3 (by rw[k.2.2.1];decide))).trans (qA [(0,some 0)] rfl rfl rfl ⟨rfl,rfl,trivial⟩ ⟨rfl,trivial⟩)⟩⟩
  exact⟨(),trivial,(qC (t:=3) rfl (zF ⟨λh=>⟨h1,h2,by simpa using h3,by simpa using h⟩,λk=>by rw[k.2.2.2];decide⟩)).trans (qA [(0,some 0)] rfl rfl rfl ⟨rfl,rfl,trivial⟩ ⟨rfl,trivial⟩)⟩
 ·intro hl1;refine⟨λh1=>?_,λh1=>⟨(),trivial,(qC (t:=4) rfl (zd λk=>h1 (by have:=k.1.1;omega))).trans (qA [(0,some 0)] rfl rfl rfl ⟨rfl,rfl,rfl,trivial⟩ ⟨rfl,trivial⟩)⟩⟩;refine⟨λh2=>?_,λh2=>⟨(),trivial,(qC (t:=4) rfl (zd λk=>h2 k.1.2.1)).trans (qA [(0,some 0)] rfl rfl rfl ⟨rfl,rfl,rfl,trivial⟩ ⟨rfl,trivial⟩)⟩⟩;intro hl2;refine⟨λh3=>?_,λh3=>⟨(),trivial,(qC (t:=4) rfl (zd λk=>h3 (by have:=k.1.2.2.1;omega))).trans (qA [(0,some 0)] rfl rfl rfl ⟨rfl,rfl,rfl,trivial⟩ ⟨rfl,trivial⟩)⟩⟩
  intro hl3;refine⟨λh4=>?_,λh4=>⟨(),trivial,(qC (t:=4) rfl (zd λk=>h4 (by have:=k.1.2.2.2;omega))).trans (qA [(0,some 0)] rfl rfl rfl ⟨rfl,rfl,rfl,trivial⟩ ⟨rfl,trivial⟩)⟩⟩;exact zb.t (ztS n.pen)<|⟨(),trivial,(qC (t:=4) rfl (zF ⟨λh=>⟨⟨oM,h2,oM,oM⟩,h⟩,λk=>k.2⟩)).trans (qA [(0,some 0)] rfl rfl rfl ⟨rfl,rfl,rfl,trivial⟩ ⟨rfl,trivial⟩)⟩
 ·refine zb.t ((zmH n.im zImg).args (.cons .refl (.cons zAz .nil)))<|⟨λh1=>?_,λh1=>⟨(),trivial,(qC (t:=5) rfl (zd λk=>h1 (zoh.1 k).1)).trans (qA [(0,some 0)] rfl rfl rfl ⟨rfl,rfl,rfl,rfl,trivial⟩ ⟨rfl,trivial⟩)⟩⟩;exact⟨(),trivial,(qC (t:=5) rfl (zF ⟨λh=>zoh.2 ⟨h1,h⟩,λk=>(zoh.1 k).2⟩)).trans (qA [(0,some 0)] rfl rfl rfl ⟨rfl,rfl,rfl,rfl,trivial⟩ ⟨rfl,trivial⟩)⟩
 ·refine⟨λk1=>?_,λk1=>?_⟩
  ·have e:vG n↔(zc5 n/\uq n.pen)/\zch n:=by unfold vG;rw[if_pos k1]
   exact⟨λa=>zF ⟨λh=>e.2 ⟨a,h⟩,λk=>(e.1 k).2⟩,λa=>zd λk=>a (e.1 k).1⟩
  refine⟨λk2=>?_,λk2=>?_⟩
  ·have e:vG n↔zcg n/\zch n:=by unfold vG;rw[if_neg k1,if_pos k2]
   exact⟨λa=>zF ⟨λh=>e.2 ⟨a,h⟩,λk=>(e.1 k).2⟩,λa=>zd λk=>a (e.1 k).1⟩
  ·have e:vG n↔zcg n/\zc5 n/\uq n.pen:=by unfold vG;rw[if_neg k1,if_neg k2]
   exact⟨λa=>zF ⟨λh=>e.2 ⟨a,h⟩,λk=>(e.1 k).2⟩,λa=>zd λk=>a (e.1 k).1⟩
def zqG(n:Nd):Prop:=n.k < 1∨3 < n.k
instance (n:Nd):Decidable (zqG n):=inferInstanceAs (Decidable (_∨_))
def zls(n:Nd):Prop:=n.id < 1∨1073741824 < n.id∨n.d < 0∨8<=n.d
instance (n:Nd):Decidable (zls n):=inferInstanceAs (Decidable (_∨_))
def zcW(n:Nd):Er:=za6 [qa (zqG n) 2,qa (zls n) 6,qa (¬n.t.ok) 5,qa (yz n.t=0) 9,qa (¬qU n.clip) 10,qa (¬vg n∨¬vG n) 17]
theorem zyE(n:Nd)(ht:n.t.le 1000):CG0 206 [.agg (ndE n)] [] (.op (erV (zcW n))) []:=by
 refine zcz tok Tryz.func206 rfl rfl rfl (zc9.cut tok mix 2 (λ_:Unit=>⟨[(3,pr (vg n)),(1,.loc 0 0)],[(0,.box 55 (ndE n))],1,76,0⟩) (λ_=>True) ?_ λ_ _=>zc9.vc tok mix ?_)
 ·intro hl1;refine⟨λh1=>?_,λh1=>?_⟩
  ·refine⟨λh2=>⟨(),trivial,(qC (t:=3) rfl (zR (.inl ⟨oM,h2⟩))).trans (qA [(0,some 0)] rfl rfl rfl ⟨rfl,rfl,trivial⟩ ⟨rfl,trivial⟩)⟩,λh2=>?_⟩;intro hl2;refine⟨λh3=>?_,λh3=>⟨(),trivial,(qC (t:=3) rfl (zd λk=>k.elim (λk=>h2 k.2) λk=>by have:=k.1;omega)).trans (qA [(0,some 0)] rfl rfl rfl ⟨rfl,rfl,trivial⟩ ⟨rfl,trivial⟩)⟩⟩;omega
  ·intro hl2;refine⟨λh3=>?_,λh3=>?_⟩
   ·exact zb.t (zyC n.cr)<|⟨(),trivial,(qC (t:=3) rfl (zF ⟨λh=>.inr ⟨oM,h⟩,λk=>k.elim (λk=>by have:=k.1;omega) λk=>k.2⟩)).trans (qA [(0,some 0)] rfl rfl rfl ⟨rfl,rfl,trivial⟩ ⟨rfl,trivial⟩)⟩
   ·omega
 ·refine Dr.d<|Br.mk (λa1=>?_) (λa1=>?_)
  all_goals refine zb.t ((yG (zqG n) 2).args (.cons (by first | exact zR (.inl a1) | exact zF ⟨.inr,λk=>k.resolve_left a1⟩) LEs.refl)) ?_
  all_goals (refine⟨λb1=>?_,λb1=>?_⟩;rotate_left;refine⟨λb2=>?_,λb2=>?_⟩;rotate_left;refine⟨λb3=>?_,λb3=>?_⟩)
  all_goals refine zb.t ((yG (zls n) 6).args (.cons (by first | exact zR (by unfold zls;omega) | exact zF (by unfold zls;constructor <;> intro <;> omega)) LEs.refl)) ?_
  all_goals refine zb.t (zcD n.t (ht.up dC)) ?_
  all_goals refine zb.t (yG (¬n.t.ok) 5) ?_
  all_goals refine zb.t (zCV n.t (ht.up dC)) ?_
  all_goals refine zb.t (yG (yz n.t=0) 9) ?_
  all_goals refine zb.t (ziJ n.clip) ?_
  all_goals refine zb.t (yG (¬qU n.clip) 10) ?_
  all_goals refine⟨λc1=>?_,λc1=>?_⟩
  all_goals first
   | refine zb.t ((yG (¬vg n∨¬vG n) 17).args (.cons (zR (.inl c1)) LEs.refl)) ?_
   | (refine zb.t (zCX n) ?_;refine zb.t ((yG (¬vg n∨¬vG n) 17).args (.cons (zF ⟨.inr,λk=>k.resolve_left c1⟩) LEs.refl)) ?_)
  all_goals refine⟨Er,zwE,[qa (zqG n) 2,qa (zls n) 6,qa (¬n.t.ok) 5,qa (yz n.t=0) 9,qa (¬qU n.clip) 10,qa (¬vg n∨¬vG n) 17],rfl,Ob.o17 ?_⟩
  all_goals refine zb.see 1 _ (znp [qa (zqG n) 2,qa (zls n) 6,qa (¬n.t.ok) 5,qa (yz n.t=0) 9,qa (¬qU n.clip) 10,qa (¬vg n∨¬vG n) 17]) rfl rfl rfl ?_
  all_goals refine Ob.mk (by kernel_rfl) ?_
  all_goals exact .refl
def zoi(n:Nd):Er:=za6 [qa (¬qU n.path) 10,qa (¬zcV n.rule) 2,qa (1 < n.fill.length∨1 < n.strk.length) 5,qa (0 < n.strk.length/\¬kI n.pen) 13,qa (n.strk.length=0/\¬uq n.pen) 17,qa (¬uK n.fill∨¬uK n.strk) 16]
theorem zAC(n:Nd)(h1:zd5 n.fill)(h2:zd5 n.strk):CG0 265 [.agg (ndE n)] [] (.op (erV (zoi n))) []:=by
 refine zc Tryz.func265 ?_;intro hl1;refine Dr.d<|zb.t (ziJ n.path)<|zb.t (yG (¬qU n.path) 10)<|zb.t (zyC n.rule)<|zb.t (yG (¬zcV n.rule) 2) ?_;intro hl2;refine⟨λa1=>?_,λa1=>?_⟩;rotate_left;intro hl3
 all_goals refine zb.t ((yG (1 < n.fill.length∨1 < n.strk.length) 5).args (.cons (by first | exact zR (.inl oM) | exact zF (by constructor <;> intro <;> omega)) LEs.refl)) ?_
 all_goals refine⟨λb1=>?_,λb1=>?_⟩
 all_goals first
  | (refine zb.t (zeu n.pen) ?_;refine zb.t ((yG (0 < n.strk.length/\¬kI n.pen) 13).args (.cons (zF ⟨λh=>⟨oM,h⟩,λk=>k.2⟩) LEs.refl)) ?_)
  | refine zb.t ((yG (0 < n.strk.length/\¬kI n.pen) 13).args (.cons (zd oM) LEs.refl)) ?_
 all_goals refine⟨λc1=>?_,λc1=>?_⟩
 all_goals first
  | (refine zb.t (ztS n.pen) ?_;refine zb.t ((yG (n.strk.length=0/\¬uq n.pen) 17).args (.cons (zF ⟨λh=>⟨oM,h⟩,λk=>k.2⟩) LEs.refl)) ?_)
  | refine zb.t ((yG (n.strk.length=0/\¬uq n.pen) 17).args (.cons (zd oM) LEs.refl)) ?_
 all_goals refine zb.t (zBv n.fill h1) ?_
 all_goals refine⟨λd1=>?_,λd1=>?_⟩
 all_goals first
  | refine zb.t ((yG (¬uK n.fill∨¬uK n.strk) 16).args (.cons (zR (.inl d1)) LEs.refl)) ?_
  | (refine zb.t (zBv n.strk h2) ?_;refine zb.t ((yG (¬uK n.fill∨¬uK n.strk) 16).args (.cons (zF ⟨.inr,λk=>k.resolve_left d1⟩) LEs.refl)) ?_)
 all_goals refine⟨Er,zwE,[qa (¬qU n.path) 10,qa (¬zcV n.rule) 2,qa (1 < n.fill.length∨1 < n.strk.length) 5,qa (0 < n.strk.length/\¬kI n.pen) 13,qa (n.strk.length=0/\¬uq n.pen) 17,qa (¬uK n.fill∨¬uK n.strk) 16],rfl,Ob.o17 ?_⟩
 all_goals refine zb.see 1 _ (znp [qa (¬qU n.path) 10,qa (¬zcV n.rule) 2,qa (1 < n.fill.length∨1 < n.strk.length) 5,qa (0 < n.strk.length/\¬kI n.pen) 13,qa (n.strk.length=0/\¬uq n.pen) 17,qa (¬uK n.fill∨¬uK n.strk) 16]) rfl rfl rfl ?_
 all_goals refine Ob.mk (by kernel_rfl) ?_
 all_goals exact .refl
def zlt(n:Nd):Er:=if n.k=1 then qa (¬zkQ n.mode) 2 else if n.k=2 then zoi n else za6 [qa (¬ze4 n.im) 16,qa (n.smp≠1/\n.smp≠2) 2]
def zkR(n:Nd):Prop:=n.t.le 1000/\zd5 n.fill/\zd5 n.strk/\n.im.px.length<=9223372036854775807
theorem g_own(n:Nd)(h:zkR n):CG0 207 [.agg (ndE n)] [] (.op (erV (zlt n))) []:=by
 obtain⟨_,h1,h2,h3⟩:=h;refine zc Tryz.func207 ?_;refine⟨λk1=>?_,λk1=>?_⟩
 ·refine zb.t (zCT n.mode)<|zb.t (yG (¬zkQ n.mode) 2) ?_;rw[zlt,if_pos k1];exact .refl
 refine⟨λk2=>?_,λk2=>?_⟩
 ·refine zb.t (zAC n h1 h2) ?_;rw[zlt,if_neg k1,if_pos k2];exact .refl
 rw[zlt,if_neg k1,if_neg k2];refine Dr.d<|zb.t (zmG n.im h3)<|zb.t (yG (¬ze4 n.im) 16)<|⟨λb1=>?_,λb1=>?_⟩
 all_goals refine zb.t ((yG (n.smp≠1/\n.smp≠2) 2).args (.cons (by first | exact zF ⟨λh=>⟨b1,h⟩,λk=>k.2⟩ | exact zd λk=>b1 k.1) LEs.refl)) ?_
 all_goals refine⟨Er,zwE,[qa (¬ze4 n.im) 16,qa (n.smp≠1/\n.smp≠2) 2],rfl,Ob.o17 ?_⟩
 all_goals refine zb.see 1 _ (znp [qa (¬ze4 n.im) 16,qa (n.smp≠1/\n.smp≠2) 2]) rfl rfl rfl ?_
 all_goals refine Ob.mk (by kernel_rfl) ?_
 all_goals exact .refl
def zd6:Er->Int->Int
 | .nil,c=>c
 | .w c u,_=>zd6 u c
def ztT:Er->Nat
 | .nil=>0
 | .w _ u=>ztT u+1
def zsk(n:Nd):Er:=match zcW n with
 | .nil=>zlt n
 | .w c u=>.w c u
def cellA:Option (Int×Er)->SV
 | none=>i64 0
 | some (a,_)=>i64 a
def zCY:Option (Int×Er)->SV
 | none=>.val .nilIface
 | some (_,b)=>.op (erV b)
theorem zyF(n:Nd)(h:zkR n):CG0 143 [.agg (ndE n)] [] (i64 (zd6 (zsk n) 0)) []:=by
 refine zcz tok Tryz.func143 rfl rfl rfl (zc9.cut tok mix 3 (λ_:Unit=>⟨[(3,.op (erV (zsk n)))],[],1,20,0⟩) (λ_=>True) ?_ λ_ _=>zc9.vc tok mix ?_)
 ·have hc:=zyE n h.1;have ht:zsk n=match zcW n with | .nil=>zlt n | .w c u=>.w c u:=rfl
  revert hc ht
  generalize zcW n=e
  cases e with
  | nil=>
   intro hc ht;refine zb.t hc<|Br.mk (λ_=>?_) (λk=>absurd rfl k);refine zb.t (g_own n h) ?_;rw[ht];exact⟨(),trivial,zf [0]⟩
  | w c u=>
   intro hc ht;refine zb.t hc<|Br.mk (λk=>by cases k) (λ_=>?_);rw[ht];exact⟨(),trivial,zf [0]⟩
 ·refine⟨Er×Int×Option (Int×Er),λx=>⟨[(4,i64 x.2.1),(3,.op (erV x.1)),(5,.loc 1 0)],[(1,.box 234 [cellA x.2.2,zCY x.2.2])],2,20,0⟩,λx=>zd6 x.1 x.2.1=zd6 (zsk n) 0,λx=>ztT x.1,(zsk n,0,none),rfl,?_,?_⟩
  ·exact zE [(1,some 1)]
  rintro⟨e,c,o⟩ hI
  cases e with
  | nil=>
   rcases o with _ | ⟨a,b⟩
   ·exact zb.give [1] 0 [.op (erV .nil),.ifc 236 (.loc 0 0)] [(0,.box 234 [i64 0,.val .nilIface])] [(0,.box 234 [i64 0,.val .nilIface])] (bl false) (zpa _ _) LEs.refl rfl rfl rfl ⟨⟨_,rfl,rfl,rfl⟩,trivial⟩ rfl ⟨⟨rfl,rfl⟩,trivial⟩<|zj hI
   ·exact zb.give [1] 0 [.op (erV .nil),.ifc 236 (.loc 0 0)] [(0,.box 234 [i64 a,.op (erV b)])] [(0,.box 234 [i64 a,.op (erV b)])] (bl false) (zpa _ _) LEs.refl rfl rfl rfl ⟨⟨_,rfl,rfl,rfl⟩,trivial⟩ rfl ⟨⟨rfl,rfl⟩,trivial⟩<|zj hI
  | w c' u=>
   rcases o with _ | ⟨a,b⟩
   ·exact zb.give [1] 0 [.op (erV (.w c' u)),.ifc 236 (.loc 0 0)] [(0,.box 234 [i64 0,.val .nilIface])] [(0,.box 234 [i64 c',.op (erV u)])] (bl true) (zpb c' u _ _) LEs.refl rfl rfl rfl ⟨⟨_,rfl,rfl,rfl⟩,trivial⟩ rfl ⟨⟨rfl,rfl⟩,trivial⟩<|Dr.k<|⟨(u,c',some (c',u)),hI,zE [(1,some 1)],by dsimp only[ztT];omega⟩
   ·exact zb.give [1] 0 [.op (erV (.w c' u)),.ifc 236 (.loc 0 0)] [(0,.box 234 [i64 a,.op (erV b)])] [(0,.box 234 [i64 c',.op (erV u)])] (bl true) (zpb c' u _ _) LEs.refl rfl rfl rfl ⟨⟨_,rfl,rfl,rfl⟩,trivial⟩ rfl ⟨⟨rfl,rfl⟩,trivial⟩<|Dr.k<|⟨(u,c',some (c',u)),hI,zE [(1,some 1)],by dsimp only[ztT];omega⟩
variable{c:Int}
theorem zkS{p:Prop}[Decidable p]{l:List Er}:za6 (qa p c::l)=if p then .w 0 (.w c .nil) else za6 l:=by unfold qa;split <;> rfl
theorem zvC{p:Prop}[Decidable p]:zd6 (qa p c) 0=if p then c else 0:=by unfold qa;split <;> rfl
theorem zyG{n:Nd}:¬zgS n↔¬vg n∨¬vG n:=by
 show ¬(vg n/\vG n)↔_;exact Decidable.not_and_iff_or_not
theorem zkT{p:Prop}[Decidable p]{l:List Er}:zd6 (za6 (qa p c::l)) 0=if p then c else zd6 (za6 l) 0:=by rw[zkS];split <;> rfl
theorem zCZ(n:Nd):zd6 (zsk n) 0=ua n:=by
 have hs:zd6 (zoi n) 0=vF n:=by
  unfold zoi vF;simp only[zkT];rfl
 have ho:zd6 (zlt n) 0=if n.k=1 then(if ¬(1<=n.mode/\n.mode<=13) then 2 else 0) else if n.k=2 then vF n else if ¬ze4 n.im then 16 else if n.smp≠1/\n.smp≠2 then 2 else 0:=by
  unfold zlt
  split
  ·exact zvC
  ·split
   ·exact hs
   ·simp only[zkT];rfl
 have ht:zsk n=match zcW n with | .nil=>zlt n | .w c u=>.w c u:=rfl
 have hc:ua n=if zqG n then 2 else if zls n then 6 else if ¬n.t.ok then 5 else if yz n.t=0 then 9 else if ¬qU n.clip then 10 else if ¬vg n∨¬vG n then 17 else zd6 (zlt n) 0:=by
  rw[ho];unfold ua;simp only[zyG];rfl
 rw[hc,ht]
 have hm:zcW n=if zqG n then .w 0 (.w 2 .nil) else if zls n then .w 0 (.w 6 .nil) else if ¬n.t.ok then .w 0 (.w 5 .nil) else if yz n.t=0 then .w 0 (.w 9 .nil) else if ¬qU n.clip then .w 0 (.w 10 .nil) else if ¬vg n∨¬vG n then .w 0 (.w 17 .nil) else .nil:=by
  unfold zcW;simp only[zkS];rfl
 rw[hm]
 by_cases h1:zqG n
 ·simp only[if_pos h1];rfl
 simp only[if_neg h1]
 by_cases h2:zls n
 ·simp only[if_pos h2];rfl
 simp only[if_neg h2]
 by_cases h3:¬n.t.ok
 ·simp only[if_pos h3];rfl
 simp only[if_neg h3]
 by_cases h4:yz n.t=0
 ·simp only[if_pos h4];rfl
 simp only[if_neg h4]
 by_cases h5:¬qU n.clip
 ·simp only[if_pos h5];rfl
 simp only[if_neg h5]
 by_cases h6:¬vg n∨¬vG n
 ·simp only[if_pos h6];rfl
 simp only[if_neg h6]
theorem zAD(n:Nd)(h:zkR n):CG0 143 [.agg (ndE n)] [] (i64 (ua n)) []:=zCZ n ▸ zyF n h
def ur(t:AF)(x:List Pt)(j:Nat):List Pt:=y4 t (x.take j)++List.replicate (x.length - j) zp
theorem zkU(t:AF)(x:List Pt)(h:j<=x.length):(ur t x j).length=x.length:=by
 unfold ur y4;rw[Xj,Xz,Xk,Kh];omega
theorem zkV{t:AF}{x:List Pt}{z:Pt}(h:x[j]? =some z):(ur t x j).set j (kv t z).1=ur t x (j+1):=by
 have hj:j < x.length:=(Xc.1 h).1;have hl:(y4 t (x.take j)).length=j:=by unfold y4;rw[Xz,Xk];omega
 unfold ur;rw[show x.length - j=(x.length - (j+1))+1 by omega,List.replicate_succ,Yk _ _ oM,hl,JG,List.set_cons_zero];have e:y4 t (x.take (j+1))=y4 t (x.take j)++[(kv t z).1]:=by unfold y4;rw[Xm,h,XG];rfl
 rw[e,XK];rfl
def tQ(rs:List (List Pt))(t:AF):Nat->St
 | 0=>⟨[(3,.loc 0 0),(4,.loc 1 0),(5,.loc 2 0),(15,.sl zh rs),(16,i64 (rs.length:Int)),(17,i64 ((0:Nat):Int))],[(0,.box 45 (afE t)),(1,.box 30 [.val (.slice none 0 0)]),(2,.box 61 [i64 0])],3,48,3⟩
 | i+1=>⟨[(3,.loc 0 0),(4,.loc 1 0),(5,.loc 2 0),(15,.sl zh rs),(16,i64 (rs.length:Int)),(17,i64 ((i+1:Nat):Int))],[(0,.box 45 (afE t)),(1,.box 30 [.own 3]),(2,.box 61 [i64 0]),(3,.garr 72 1 (yQ ((rs.take (i+1)).map (y4 t))))],4,48,3⟩
theorem zC0(rs:List (List Pt))(t:AF)(ht:t.le 100000)(hl:rs.length<=100000)(hs:∀r∈rs,(r.length:Int)<=9223372036854771711):CG0 124 [.sl zh rs,.agg (afE t)] [] (rgE (yl rs t)) []:=by
 refine zmF 2 2 tok mix Tryz.func124 rfl rfl rfl Tryz.func191 rfl rfl<|⟨_,_,rfl,?_⟩;refine⟨_,_,rfl,?_⟩;refine zb.t (zj7 rs hs)<|⟨λk=>?_,λk=>?_⟩
 ·have k:¬kw rs:=k;exact qP (by unfold yl;rw[if_pos k])
 have k:kw rs:=Xa.1 k;have es:yl rs t=if zdd t rs≠0 then([],zdd t rs) else(rs.map (y4 t),0):=by unfold yl;rw[kQ k]
 have hc:qi rs<=4096:=by have:=k.1;omega
 refine⟨_,_,_,_,_,rfl,rfl,rfl,rfl,?_⟩;refine⟨_,rfl,rfl,rfl,?_⟩;intro hl1;refine⟨Nat,tQ rs t,λi=>i<=rs.length/\∀r∈rs.take i,zdc t r=0,λi=>rs.length - i,0,⟨Xe _,λr hr=>by cases hr⟩,?_,?_⟩
 ·exact zf [0,1,2]
 rintro(_ | i) ⟨h1,h2⟩
 ·refine⟨λg=>?_,λg=>?_⟩;rotate_left
  ·have g:¬(((0:Nat):Int)) < rs.length:=g;have e0:rs=[]:=Xn oM;refine⟨_,.refl,rfl,?_⟩;refine⟨λh=>absurd rfl h,λ_=>?_⟩;exact qP (by rw[es,e0];rfl)
  have g:((0:Nat):Int) < rs.length:=g;obtain⟨x,hx⟩:∃x,rs[0]? =some x:=⟨_,Xb oM⟩;have hxl:=XB (zcf (Xd hx)) hc;refine Ob.o ?_;intro y hy;have ey:y=x:=Xi ((show rs[0]? =some y from hy).symm.trans hx);rw[ey];intro hl2;refine⟨Pt,ptE,zp,rfl,Ob.mk ⟨dC,oM,oM,(by show(x.length:Int)*16<=_;omega),oM⟩ ?_⟩;intro hl3
  refine⟨Nat,λj=>⟨[(3,.loc 0 0),(4,.loc 1 0),(5,.loc 2 0),(8,.own 3),(15,.sl zh rs),(16,i64 (rs.length:Int)),(17,i64 ((0:Nat):Int)),(24,.sl ptE x),(25,i64 (x.length:Int)),(26,i64 (j:Int))],[(0,.box 45 (afE t)),(1,.box 30 [.val (.slice none 0 0)]),(2,.box 61 [i64 0]),(3,.arr 35 ptE 2 (ur t x j))],4,48,3⟩,λj=>j<=x.length/\∀p∈x.take j,(kv t p).2=0,λj=>x.length - j,0,⟨Xe _,λp hp=>by cases hp⟩,?_,?_⟩
  ·exact zC [0,1,2,3] ⟨rfl,rfl,rfl,congrArg (λq=>some (Mem.arr 35 ptE 2 q)) (by unfold ur;rfl),trivial⟩
  rintro j ⟨j1,j2⟩
  have zl:=zkU t x j1;refine⟨λq=>?_,λq=>?_⟩
  ·have q:(j:Int) < x.length:=q;refine Ob.o ?_;intro z hz;have hz:x[j]? =some z:=hz;refine zb.t (zcL t z ht)<|Ob.o<|Ob.o ?_;intro old _;refine⟨(kv t z).1,rfl,?_⟩;refine⟨λe=>?_,λe=>?_⟩
   ·have e:¬(kv t z).2=0:=e;have eL:=zgJ hz j2 e;have eR:=zgK hx h2 (by rw[eL];exact e);refine⟨_,.refl,rfl,?_⟩;refine⟨λ_=>?_,λh=>absurd e h⟩;exact qP (by rw[es,eR,eL,if_pos e])
   have e:(kv t z).2=0:=Xa.1 e;exact Ar.o<|⟨j+1,⟨oM,yC hz j2 e⟩,zC [0,1,2,3] ⟨rfl,rfl,congrArg (λn=>some (Mem.box 61 [i64 n])) e,congrArg (λq=>some (Mem.arr 35 ptE 2 q)) (zkV hz),trivial⟩,by dsimp only;omega⟩
  have q:¬(j:Int) < x.length:=q;have etx:x.take j=x:=Xf oM;have ez:ur t x j=y4 t x:=by unfold ur;rw[etx,show x.length - j=0 by omega];exact Xy _
  rw[etx]at j2;refine⟨[[.own 3]],rfl,Ob.o8 ?_⟩;refine Ob.o27<|Ar.o<|⟨0+1,⟨oM,yC hx h2 (zgI j2)⟩,(zby (sz0:=1) (T0:=72) 3 5 (enc:=ptE) (ys:=ur t x j) rfl rfl (xs':=yQ ([]++[ur t x j])) (by rfl) (λz hz=>?_) zgL).trans (zC [0,1,2,5] ⟨rfl,rfl,rfl,⟨_,rfl,zan ?_⟩,trivial⟩),by dsimp only;omega⟩
  ·unfold yQ at hz;obtain⟨b,_,rfl⟩:=XO.1 hz;rfl
  ·rw[ez];rw[Xm,hx];rfl
 ·refine⟨λg=>?_,λg=>?_⟩;rotate_left
  ·have g:¬((i+1:Nat):Int) < rs.length:=g;have et:rs.take (i+1)=rs:=Xf oM;have h3:=h2;rw[et]at h3;have er:yl rs t=(rs.map (y4 t),0):=by rw[es,zoc h3];rfl
   refine⟨_,zf3 3 zh ((rs.take (i+1)).map (y4 t)) rfl (λ_ _=>rfl),rfl,?_⟩;refine⟨λh=>absurd rfl h,λ_=>?_⟩;rw[er];exact zI (z9 (show(rs.take (i+1)).map (y4 t)=rs.map (y4 t) by rw[et])) .refl
  have g:(((i+1):Nat):Int) < rs.length:=g;obtain⟨x,hx⟩:∃x,rs[(i+1)]? =some x:=⟨_,Xb oM⟩;have hxl:=XB (zcf (Xd hx)) hc;refine Ob.o ?_;intro y hy;have ey:y=x:=Xi ((show rs[(i+1)]? =some y from hy).symm.trans hx);rw[ey];intro hl2;refine⟨Pt,ptE,zp,rfl,Ob.mk ⟨dC,oM,oM,(by show(x.length:Int)*16<=_;omega),oM⟩ ?_⟩;intro hl3
  refine⟨Nat,λj=>⟨[(3,.loc 0 0),(4,.loc 1 0),(5,.loc 2 0),(8,.own 4),(15,.sl zh rs),(16,i64 (rs.length:Int)),(17,i64 (((i+1):Nat):Int)),(24,.sl ptE x),(25,i64 (x.length:Int)),(26,i64 (j:Int))],[(0,.box 45 (afE t)),(1,.box 30 [.own 3]),(2,.box 61 [i64 0]),(3,.garr 72 1 (yQ ((rs.take (i+1)).map (y4 t)))),(4,.arr 35 ptE 2 (ur t x j))],5,48,3⟩,λj=>j<=x.length/\∀p∈x.take j,(kv t p).2=0,λj=>x.length - j,0,⟨Xe _,λp hp=>by cases hp⟩,?_,?_⟩
  ·exact zC [0,1,2,3,4] ⟨rfl,rfl,rfl,⟨_,rfl,zan rfl⟩,congrArg (λq=>some (Mem.arr 35 ptE 2 q)) (by unfold ur;rfl),trivial⟩
  rintro j ⟨j1,j2⟩
  have zl:=zkU t x j1;refine⟨λq=>?_,λq=>?_⟩
  ·have q:(j:Int) < x.length:=q;refine Ob.o ?_;intro z hz;have hz:x[j]? =some z:=hz;refine zb.t (zcL t z ht)<|Ob.o<|Ob.o ?_;intro old _;refine⟨(kv t z).1,rfl,?_⟩;refine⟨λe=>?_,λe=>?_⟩
   ·have e:¬(kv t z).2=0:=e;have eL:=zgJ hz j2 e;have eR:=zgK hx h2 (by rw[eL];exact e);refine⟨_,.refl,rfl,?_⟩;refine⟨λ_=>?_,λh=>absurd e h⟩;exact qP (by rw[es,eR,eL,if_pos e])
   have e:(kv t z).2=0:=Xa.1 e;exact Ar.o<|⟨j+1,⟨oM,yC hz j2 e⟩,zC [0,1,2,3,4] ⟨rfl,rfl,congrArg (λn=>some (Mem.box 61 [i64 n])) e,⟨_,rfl,zan rfl⟩,congrArg (λq=>some (Mem.arr 35 ptE 2 q)) (zkV hz),trivial⟩,by dsimp only;omega⟩
  have q:¬(j:Int) < x.length:=q;have etx:x.take j=x:=Xf oM;have ez:ur t x j=y4 t x:=by unfold ur;rw[etx,show x.length - j=0 by omega];exact Xy _
  rw[etx]at j2;refine⟨[[.own 4]],rfl,Ob.o8 ?_⟩;refine Ob.mk ⟨by show _*(24:Int)<=_;rw[vm,Xz,Xk];simp only[Xl,Xs];omega,by rw[vm,Xz,Xk];simp only[Xl,Xs];omega,dC⟩<|Ar.o ?_
  refine⟨(i+1)+1,⟨oM,yC hx h2 (zgI j2)⟩,(zby (sz0:=1) (T0:=72) 4 6 (enc:=ptE) (ys:=ur t x j) rfl rfl (xs':=yQ ((rs.take (i+1)).map (y4 t)++[ur t x j])) (by rw[vm,Xj,Xj,vm];rfl) (λz hz=>?_) zgL).trans (zC [0,1,2,6] ⟨rfl,rfl,rfl,⟨_,rfl,zan ?_⟩,trivial⟩),by dsimp only;omega⟩
  ·unfold yQ at hz;obtain⟨b,_,rfl⟩:=XO.1 hz;rfl
  ·rw[ez];rw[Xm (l:=rs) (i:=i+1),hx,XG];rfl
end Go.Gs
