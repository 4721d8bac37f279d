/- Dashes in the second text: the part between two distances. -/
import Derived.Test.YtbgnkgoiocjbnaaGreatMA
import Derived.Test.YtbgnkgoiocjbnaaGreatMBT
set_option maxRecDepth 100000
set_option maxHeartbeats 8000000
set_option linter.all false
namespace Go.Gs
open Go.Proofs
theorem zwr:∀{l:List Pt} {i:Nat},jF l->i+1 < l.length->nth l i≠nth l (i+1)
 | [],_,_,h=>by cases h
 | [_],i,_,h=>by simp at h
 | a::b::r,0,h,_=>h.1 b rfl
 | a::b::r,i+1,h,hl=>zwr (l:=b::r) (i:=i) h.2 (by simpa using hl)
theorem zwE(p:Pl):jF (qE p):=by
 have ha:jF (zE p).pts:=by
  unfold zE;dsimp only
  split
  ·exact zdc (zbU _)
  ·exact zbU _
 rw [zaE]
 by_cases h:(zE p).cl=true/\2<=(zE p).pts.length
 ·rw [zl9 h.1 h.2];refine zgP ha fun e=>?_
  have hc:p.cl=true:=h.1;have ed:=znb hc;have ht:=zpy (l:=qP p.pts) (zbU _) (by rw [← ed];omega);rw [← ed,e] at ht;refine ht ?_;unfold nth;rw [List.getD_eq_getElem?_getD,List.head?_eq_getElem?,List.getElem?_eq_getElem (show 0 < (zE p).pts.length by omega)];rfl
 ·rw [ztJ h];exact ha
theorem zwb{p:Pl}(h:∀q∈p.pts,zo q){i:Nat}(hi:i < (qE p).length):zo (nth (qE p) i):=h _ (zlL (zd4 hi))
theorem zwR{p:Pl}(h:∀q∈p.pts,zo q){i:Nat}(hi:i+1 < (qE p).length):1<=zjN (nth (qE p) i) (nth (qE p) (i+1)):=
 zw1 (zwb h oM) (zwb h hi) (zwr (zwE p) hi)
theorem zvX(c:List Pt)(i:Nat):atS c (i+1)=atS c i+zjN (nth c i) (nth c (i+1)):=rfl
theorem zwS{p:Pl}(h:∀q∈p.pts,zo q){t:Int}{i:Nat}(hi:i+1 < (qE p).length)(h1:atS (qE p) i < t)(h2:t<=atS (qE p) (i+1)):
  zd3 (qE p) t=zeY (nth (qE p) i) (nth (qE p) (i+1)) (t - atS (qE p) i) (zjN (nth (qE p) i) (nth (qE p) (i+1))):=by
 have pr:=zfc (nth (qE p) i) (nth (qE p) (i+1));have sp:=zwR h hi
 by_cases c:t < atS (qE p) (i+1)
 ·exact zwt oM oM c
 have e:t=atS (qE p) (i+1):=oM
 by_cases c2:i+2 < (qE p).length
 ·have sp2:=zwR h (i:=i+1) c2;have pr2:=zfc (nth (qE p) (i+1)) (nth (qE p) (i+1+1));rw [zwt (i:=i+1) oM oM (by rw [zvX (qE p) (i+1)];omega),e,Int.sub_self,zwZ oM (zwb h hi)];rw [show atS (qE p) (i+1) - atS (qE p) i=zjN (nth (qE p) i) (nth (qE p) (i+1)) by rw [zvX];omega,zw0 oM (zwb h oM) (zwb h hi)]
 ·unfold zd3;rw [show (qE p).length - 2=i by omega,zss oM];dsimp only;rw [show atS (qE p) (i+1) - atS (qE p) i=zjN (nth (qE p) i) (nth (qE p) (i+1)) by rw [zvX];omega]
theorem zwC{c:List Pt}{f t:Int}:∀{n:Nat},(∀j,j < n->¬f < atS c j)->zio c f t n=[]
 | 0,_=>rfl
 | n+1,h=>by rw [ziT,zwC fun j hj=>h j oM,if_neg fun k=>h n oM k.1];rfl
def zwF(c:List Pt)(f t:Int)(i:Nat):List Pt:=(if f < atS c i then [zd3 c f] else [])++zio c f t i++(if t<=atS c i then [zd3 c t] else [])
def zv3(c:List Pt)(f t:Int)(i:Nat):List Pt:=z6 [] (zwF c f t i)
theorem zw2{p:Pl}(h:∀q∈p.pts,zo q){f t:Int}{i:Nat}(hi:i+1 < (qE p).length)(hft:f < t):
  zv3 (qE p) f t (i+1)=z6 (zv3 (qE p) f t i)
   ((if ¬f < atS (qE p) i/\f < atS (qE p) (i+1) then [zeY (nth (qE p) i) (nth (qE p) (i+1)) (f - atS (qE p) i) (zjN (nth (qE p) i) (nth (qE p) (i+1)))] else [])++
    (if f < atS (qE p) i/\atS (qE p) i < t then [nth (qE p) i] else [])++
    (if atS (qE p) i < t/\t<=atS (qE p) (i+1) then [zeY (nth (qE p) i) (nth (qE p) (i+1)) (t - atS (qE p) i) (zjN (nth (qE p) i) (nth (qE p) (i+1)))] else [])):=by
 have mono:=zwm (c:=qE p) (show i<=i+1 by omega);have key:∀A B,z6 [] (A++B)=z6 (z6 [] A) B:=fun A B=>by unfold z6;rw [List.foldl_append]
 unfold zv3;rw [← key];congr 1;unfold zwF;rw [ziT]
 by_cases F:f < atS (qE p) i
 ·rw [if_pos F,if_pos (show f < atS (qE p) (i+1) by omega),if_neg (show ¬(¬f < atS (qE p) i/\f < atS (qE p) (i+1)) from fun k=>k.1 F)]
  by_cases T:t<=atS (qE p) i
  ·rw [if_pos T,if_pos (show t<=atS (qE p) (i+1) by omega),if_neg (show ¬(f < atS (qE p) i/\atS (qE p) i < t) by omega),if_neg (show ¬(atS (qE p) i < t/\t<=atS (qE p) (i+1)) by omega)];simp
  ·rw [if_neg T,if_pos (show f < atS (qE p) i/\atS (qE p) i < t by omega)]
   by_cases T2:t<=atS (qE p) (i+1)
   ·rw [if_pos T2,if_pos (show atS (qE p) i < t/\t<=atS (qE p) (i+1) by omega),zwS h hi oM T2];simp
   ·rw [if_neg T2,if_neg (show ¬(atS (qE p) i < t/\t<=atS (qE p) (i+1)) by omega)];simp
 ·have mn:zio (qE p) f t i=[]:=zwC fun j hj k=>F (by have:=zwm (c:=qE p) (show j<=i by omega);omega)
  rw [if_neg F,mn,if_neg (show ¬(f < atS (qE p) i/\atS (qE p) i < t) by omega),if_neg (show ¬t<=atS (qE p) i by omega)]
  by_cases F2:f < atS (qE p) (i+1)
  ·rw [if_pos F2,if_pos (show ¬f < atS (qE p) i/\f < atS (qE p) (i+1) by omega),zwt (i:=i) oM F F2]
   by_cases T2:t<=atS (qE p) (i+1)
   ·rw [if_pos T2,if_pos (show atS (qE p) i < t/\t<=atS (qE p) (i+1) by omega),zwS h hi oM T2];simp
   ·rw [if_neg T2,if_neg (show ¬(atS (qE p) i < t/\t<=atS (qE p) (i+1)) by omega)];simp
  ·rw [if_neg F2,if_neg (show ¬(¬f < atS (qE p) i/\f < atS (qE p) (i+1)) by omega),if_neg (show ¬t<=atS (qE p) (i+1) by omega),if_neg (show ¬(atS (qE p) i < t/\t<=atS (qE p) (i+1)) by omega)];simp
theorem zxi{p:Pl}{f t:Int}(hft:f < t)(ht:t<=qf p):zv3 (qE p) f t ((qE p).length - 1)=zbq (qE p) f t:=by
 have e:atS (qE p) ((qE p).length - 1)=qf p:=rfl;unfold zv3 zwF zbq;rw [if_pos (show f < atS (qE p) ((qE p).length - 1) by omega),if_pos (show t<=atS (qE p) ((qE p).length - 1) by omega)]
theorem zxj(c:List Pt)(f t:Int)(i:Nat):(zv3 c f t i).length<=i+2:=by
 have h:=vJ (zwF c f t i) []
 have hm:(zio c f t i).length<=i:=by
  unfold zio;rw [List.length_map];exact Nat.le_trans (List.length_filter_le _ _) (by simp)
 unfold zv3
 have h2:(zwF c f t i).length<=i+2:=by
  unfold zwF;rw [List.length_append,List.length_append]
  split <;> split <;> simp <;> omega
 have h3:([]:List Pt).length=0:=rfl;omega
theorem zxu(p:Pl)(f t:Int)(hp:p.pts.length<=4096)(ok:∀q∈p.pts,zo q)(hf:0<=f)(hft:f < t)(ht:t<=qf p):
  zd Tryz.prog 96 [.agg (plE p),i64 f,i64 t] [] (.agg (plE ⟨zbq (qE p) f t,false⟩)) []:=by
 refine zc tok mix Tryz.func96 rfl rfl rfl ?_;have lr:=znl p hp;have dl:=yM p;have ll:=yd (zE p);rw [← zaE] at ll;refine zb.t (zww p hp ok) ?_;have ef:zcU 0 [zac f [qf p]]=f:=show max 0 (min f (qf p))=f by omega
 have et:zcU 0 [zac t [qf p]]=t:=show max 0 (min t (qf p))=t by omega
 refine Br.mk (fun h=>absurd (show zcU 0 [zac t [qf p]]<=zcU 0 [zac f [qf p]] from h) oM) (fun _=>?_);refine zb.t (zxg p hp) ?_;refine ⟨Pt,ptE,[],rfl,Ob.o2 ?_⟩;refine ⟨Nat,fun i=>⟨[(6,.loc 0 0),(8,i64 f),(9,i64 t),(10,.sl ptE (qE p)),(11,.own 1),(12,i64 (atS (qE p) i)),(13,i64 ((i:Int)+1))],[(0,.box 85 [.val (.slice none 0 0),.val (.bool false)]),(1,.arr 52 ptE 2 (zv3 (qE p) f t i))],2,120,0⟩,fun i=>i<=(qE p).length - 1,fun i=>(qE p).length - i,0,?_,?_,?_⟩
 ·exact Nat.zero_le _
 ·refine z0 [(0,some 1),(1,some 2)] ⟨rfl,congrArg (fun q=>some (i64 q)) ef,congrArg (fun q=>some (i64 q)) et,rfl,rfl,rfl,rfl,trivial⟩ ⟨rfl,congrArg (fun q=>some (Mem.arr 52 ptE 2 q)) ?_,trivial⟩;unfold zv3 zwF;rw [show atS (qE p) 0=0 from rfl,if_neg oM,if_neg oM];rfl
 rintro i hi
 have ar:=zaF (qE p) i;have sl:=zxj (qE p) f t i;intro hl1;refine Br.mk (fun g=>?_) (fun g=>?_);rotate_left
 ·have g:¬(i:Int)+1 < (qE p).length:=g;refine jJ (.cons (qb ?_) (.cons (ze (show ¬(false=true) by decide)) .nil));rw [show i=(qE p).length - 1 by omega,zxi hft ht]
 have g:(i:Int)+1 < (qE p).length:=g;have hi1:i+1 < (qE p).length:=oM;have key:=zw2 ok hi1 hft;rw [zvX] at key;refine Dr.k ?_;refine Ar.o ?_;refine Ob.o ?_;intro x hx
 have hx:=yL (show (qE p)[i]? =some x by
  have hx:(qE p)[((i:Int)+1 - 1).toNat]? =some x:=hx
  rwa [show ((i:Int)+1 - 1).toNat=i by omega] at hx)
 have hxs:∀x',(qE p)[((i:Int)+1 - 1).toNat]? =some x'->x'=x:=fun x' h=>by
  rw [show ((i:Int)+1 - 1).toNat=i by omega] at h;exact (yL h).trans hx.symm
 refine Ob.o ?_;intro y hy;have hy:=yL (show (qE p)[i+1]? =some y from hy);have hys:∀y',(qE p)[((i:Int)+1).toNat]? =some y'->y'=y:=fun y' h=>(yL (show (qE p)[i+1]? =some y' from h)).trans hy.symm
 refine zb.t (zwO x y) ?_;have pr:=zfc x y;rw [← hx,← hy] at key;refine Br.mk (fun a1=>?_) (fun a1=>?_)
 ·have a1:atS (qE p) i<=f:=a1;refine Ar.o ?_;refine Br.mk (fun a2=>?_) (fun a2=>?_)
  ·have a2:f < atS (qE p) i+zjN x y:=a2;refine Dr.d ?_;refine Ar.o ?_;refine Ob.o ?_;intro x' hx';have hx':=hxs x' hx';refine Ob.o ?_;intro y' hy';have hy':=hys y' hy';rw [hx',hy'];refine Ar.o ?_;refine zb.t (zwd x y (f - atS (qE p) i) (zjN x y)) ?_;refine zb.fresh _ _ (zv8 (zv3 (qE p) f t i) (zeY x y (f - atS (qE p) i) (zjN x y)) oM) rfl (fun _ _=>rfl) (.inr (fun _ _=>rfl)) ?_;refine Ob.mk (by kernel_rfl) ?_;have s1:=zjY (zv3 (qE p) f t i) (zeY x y (f - atS (qE p) i) (zjN x y));refine Br.mk (fun b1=>absurd (show f < atS (qE p) i from b1) oM) (fun _=>?_)
   refine Br.mk (fun c1=>?_) (fun c1=>?_)
   ·have c1:atS (qE p) i < t:=c1;refine Ar.o ?_;refine Br.mk (fun c2=>?_) (fun c2=>?_)
    ·have c2:t<=atS (qE p) i+zjN x y:=c2;refine Dr.d ?_;refine Ar.o ?_;refine Ob.o ?_;intro x' hx';have hx':=hxs x' hx';refine Ob.o ?_;intro y' hy';have hy':=hys y' hy';rw [hx',hy'];refine Ar.o ?_;refine zb.t (zwd x y (t - atS (qE p) i) (zjN x y)) ?_;refine zb.fresh _ _ (zv8 (jH (zv3 (qE p) f t i) (zeY x y (f - atS (qE p) i) (zjN x y))) (zeY x y (t - atS (qE p) i) (zjN x y)) oM) rfl (fun _ _=>rfl) (.inr (fun _ _=>rfl)) ?_;refine Ob.mk (by kernel_rfl) ?_;(iterate 2 refine Ar.o ?_)
     exact ⟨i+1,oM,z0 [(0,some 0),(1,some 3)] ⟨rfl,rfl,rfl,rfl,rfl,congrArg (fun q=>some (i64 q)) (by rw [zvX,← hx,← hy]),congrArg (fun q=>some (i64 q)) oM,trivial⟩ ⟨rfl,congrArg (fun q=>some (Mem.arr 52 ptE 2 q)) (by rw [if_pos (show ¬f < atS (qE p) i/\f < atS (qE p) i+zjN x y by omega),if_neg (show ¬(f < atS (qE p) i/\atS (qE p) i < t) by omega),if_pos (show atS (qE p) i < t/\t<=atS (qE p) i+zjN x y by omega)] at key;exact key.symm),trivial⟩,by dsimp only;omega⟩
    ·have c2:¬t<=atS (qE p) i+zjN x y:=c2;(iterate 2 refine Ar.o ?_);exact ⟨i+1,oM,z0 [(0,some 0),(1,some 2)] ⟨rfl,rfl,rfl,rfl,rfl,congrArg (fun q=>some (i64 q)) (by rw [zvX,← hx,← hy]),congrArg (fun q=>some (i64 q)) oM,trivial⟩ ⟨rfl,congrArg (fun q=>some (Mem.arr 52 ptE 2 q)) (by rw [if_pos (show ¬f < atS (qE p) i/\f < atS (qE p) i+zjN x y by omega),if_neg (show ¬(f < atS (qE p) i/\atS (qE p) i < t) by omega),if_neg (show ¬(atS (qE p) i < t/\t<=atS (qE p) i+zjN x y) by omega)] at key;exact key.symm),trivial⟩,by dsimp only;omega⟩
   ·have c1:¬atS (qE p) i < t:=c1;(iterate 2 refine Ar.o ?_);exact ⟨i+1,oM,z0 [(0,some 0),(1,some 2)] ⟨rfl,rfl,rfl,rfl,rfl,congrArg (fun q=>some (i64 q)) (by rw [zvX,← hx,← hy]),congrArg (fun q=>some (i64 q)) oM,trivial⟩ ⟨rfl,congrArg (fun q=>some (Mem.arr 52 ptE 2 q)) (by rw [if_pos (show ¬f < atS (qE p) i/\f < atS (qE p) i+zjN x y by omega),if_neg (show ¬(f < atS (qE p) i/\atS (qE p) i < t) by omega),if_neg (show ¬(atS (qE p) i < t/\t<=atS (qE p) i+zjN x y) by omega)] at key;exact key.symm),trivial⟩,by dsimp only;omega⟩
  ·have a2:¬f < atS (qE p) i+zjN x y:=a2;refine Br.mk (fun b1=>absurd (show f < atS (qE p) i from b1) oM) (fun _=>?_);refine Br.mk (fun c1=>?_) (fun c1=>?_)
   ·have c1:atS (qE p) i < t:=c1;refine Ar.o ?_;refine Br.mk (fun c2=>?_) (fun c2=>?_)
    ·have c2:t<=atS (qE p) i+zjN x y:=c2;refine Dr.d ?_;refine Ar.o ?_;refine Ob.o ?_;intro x' hx';have hx':=hxs x' hx';refine Ob.o ?_;intro y' hy';have hy':=hys y' hy';rw [hx',hy'];refine Ar.o ?_;refine zb.t (zwd x y (t - atS (qE p) i) (zjN x y)) ?_;refine zb.fresh _ _ (zv8 (zv3 (qE p) f t i) (zeY x y (t - atS (qE p) i) (zjN x y)) oM) rfl (fun _ _=>rfl) (.inr (fun _ _=>rfl)) ?_;refine Ob.mk (by kernel_rfl) ?_;(iterate 2 refine Ar.o ?_)
     exact ⟨i+1,oM,z0 [(0,some 0),(1,some 2)] ⟨rfl,rfl,rfl,rfl,rfl,congrArg (fun q=>some (i64 q)) (by rw [zvX,← hx,← hy]),congrArg (fun q=>some (i64 q)) oM,trivial⟩ ⟨rfl,congrArg (fun q=>some (Mem.arr 52 ptE 2 q)) (by rw [if_neg (show ¬(¬f < atS (qE p) i/\f < atS (qE p) i+zjN x y) by omega),if_neg (show ¬(f < atS (qE p) i/\atS (qE p) i < t) by omega),if_pos (show atS (qE p) i < t/\t<=atS (qE p) i+zjN x y by omega)] at key;exact key.symm),trivial⟩,by dsimp only;omega⟩
    ·have c2:¬t<=atS (qE p) i+zjN x y:=c2;(iterate 2 refine Ar.o ?_);exact ⟨i+1,oM,z0 [(0,some 0),(1,some 1)] ⟨rfl,rfl,rfl,rfl,rfl,congrArg (fun q=>some (i64 q)) (by rw [zvX,← hx,← hy]),congrArg (fun q=>some (i64 q)) oM,trivial⟩ ⟨rfl,congrArg (fun q=>some (Mem.arr 52 ptE 2 q)) (by rw [if_neg (show ¬(¬f < atS (qE p) i/\f < atS (qE p) i+zjN x y) by omega),if_neg (show ¬(f < atS (qE p) i/\atS (qE p) i < t) by omega),if_neg (show ¬(atS (qE p) i < t/\t<=atS (qE p) i+zjN x y) by omega)] at key;exact key.symm),trivial⟩,by dsimp only;omega⟩
   ·have c1:¬atS (qE p) i < t:=c1;(iterate 2 refine Ar.o ?_);exact ⟨i+1,oM,z0 [(0,some 0),(1,some 1)] ⟨rfl,rfl,rfl,rfl,rfl,congrArg (fun q=>some (i64 q)) (by rw [zvX,← hx,← hy]),congrArg (fun q=>some (i64 q)) oM,trivial⟩ ⟨rfl,congrArg (fun q=>some (Mem.arr 52 ptE 2 q)) (by rw [if_neg (show ¬(¬f < atS (qE p) i/\f < atS (qE p) i+zjN x y) by omega),if_neg (show ¬(f < atS (qE p) i/\atS (qE p) i < t) by omega),if_neg (show ¬(atS (qE p) i < t/\t<=atS (qE p) i+zjN x y) by omega)] at key;exact key.symm),trivial⟩,by dsimp only;omega⟩
 ·have a1:¬atS (qE p) i<=f:=a1;refine Br.mk (fun b1=>?_) (fun b1=>?_)
  ·have b1:f < atS (qE p) i:=b1;refine Br.mk (fun b2=>?_) (fun b2=>?_)
   ·have b2:atS (qE p) i < t:=b2;refine Ar.o ?_;refine Ob.o ?_;intro x' hx';have hx':=hxs x' hx';rw [hx'];have s2:=zjY (zv3 (qE p) f t i) x;refine zb.fresh _ _ (zv8 (zv3 (qE p) f t i) x oM) rfl (fun _ _=>rfl) (.inr (fun _ _=>rfl)) ?_;refine Br.mk (fun c1=>?_) (fun c1=>?_)
    ·have c1:atS (qE p) i < t:=c1;refine Ar.o ?_;refine Br.mk (fun c2=>?_) (fun c2=>?_)
     ·have c2:t<=atS (qE p) i+zjN x y:=c2;refine Dr.d ?_;refine Ar.o ?_;refine Ob.o ?_;intro x' hx';have hx':=hxs x' hx';refine Ob.o ?_;intro y' hy';have hy':=hys y' hy';rw [hx',hy'];refine Ar.o ?_;refine zb.t (zwd x y (t - atS (qE p) i) (zjN x y)) ?_;refine zb.fresh _ _ (zv8 (jH (zv3 (qE p) f t i) x) (zeY x y (t - atS (qE p) i) (zjN x y)) oM) rfl (fun _ _=>rfl) (.inr (fun _ _=>rfl)) ?_;refine Ob.mk (by kernel_rfl) ?_;(iterate 2 refine Ar.o ?_)
      exact ⟨i+1,oM,z0 [(0,some 0),(1,some 3)] ⟨rfl,rfl,rfl,rfl,rfl,congrArg (fun q=>some (i64 q)) (by rw [zvX,← hx,← hy]),congrArg (fun q=>some (i64 q)) oM,trivial⟩ ⟨rfl,congrArg (fun q=>some (Mem.arr 52 ptE 2 q)) (by rw [if_neg (show ¬(¬f < atS (qE p) i/\f < atS (qE p) i+zjN x y) by omega),if_pos (show f < atS (qE p) i/\atS (qE p) i < t by omega),if_pos (show atS (qE p) i < t/\t<=atS (qE p) i+zjN x y by omega)] at key;exact key.symm),trivial⟩,by dsimp only;omega⟩
     ·have c2:¬t<=atS (qE p) i+zjN x y:=c2;(iterate 2 refine Ar.o ?_);exact ⟨i+1,oM,z0 [(0,some 0),(1,some 2)] ⟨rfl,rfl,rfl,rfl,rfl,congrArg (fun q=>some (i64 q)) (by rw [zvX,← hx,← hy]),congrArg (fun q=>some (i64 q)) oM,trivial⟩ ⟨rfl,congrArg (fun q=>some (Mem.arr 52 ptE 2 q)) (by rw [if_neg (show ¬(¬f < atS (qE p) i/\f < atS (qE p) i+zjN x y) by omega),if_pos (show f < atS (qE p) i/\atS (qE p) i < t by omega),if_neg (show ¬(atS (qE p) i < t/\t<=atS (qE p) i+zjN x y) by omega)] at key;exact key.symm),trivial⟩,by dsimp only;omega⟩
    ·have c1:¬atS (qE p) i < t:=c1;(iterate 2 refine Ar.o ?_);exact ⟨i+1,oM,z0 [(0,some 0),(1,some 2)] ⟨rfl,rfl,rfl,rfl,rfl,congrArg (fun q=>some (i64 q)) (by rw [zvX,← hx,← hy]),congrArg (fun q=>some (i64 q)) oM,trivial⟩ ⟨rfl,congrArg (fun q=>some (Mem.arr 52 ptE 2 q)) (by rw [if_neg (show ¬(¬f < atS (qE p) i/\f < atS (qE p) i+zjN x y) by omega),if_pos (show f < atS (qE p) i/\atS (qE p) i < t by omega),if_neg (show ¬(atS (qE p) i < t/\t<=atS (qE p) i+zjN x y) by omega)] at key;exact key.symm),trivial⟩,by dsimp only;omega⟩
   ·have b2:¬atS (qE p) i < t:=b2;refine Br.mk (fun c1=>?_) (fun c1=>?_)
    ·have c1:atS (qE p) i < t:=c1;refine Ar.o ?_;refine Br.mk (fun c2=>?_) (fun c2=>?_)
     ·have c2:t<=atS (qE p) i+zjN x y:=c2;refine Dr.d ?_;refine Ar.o ?_;refine Ob.o ?_;intro x' hx';have hx':=hxs x' hx';refine Ob.o ?_;intro y' hy';have hy':=hys y' hy';rw [hx',hy'];refine Ar.o ?_;refine zb.t (zwd x y (t - atS (qE p) i) (zjN x y)) ?_;refine zb.fresh _ _ (zv8 (zv3 (qE p) f t i) (zeY x y (t - atS (qE p) i) (zjN x y)) oM) rfl (fun _ _=>rfl) (.inr (fun _ _=>rfl)) ?_;refine Ob.mk (by kernel_rfl) ?_;(iterate 2 refine Ar.o ?_)
      exact ⟨i+1,oM,z0 [(0,some 0),(1,some 2)] ⟨rfl,rfl,rfl,rfl,rfl,congrArg (fun q=>some (i64 q)) (by rw [zvX,← hx,← hy]),congrArg (fun q=>some (i64 q)) oM,trivial⟩ ⟨rfl,congrArg (fun q=>some (Mem.arr 52 ptE 2 q)) (by rw [if_neg (show ¬(¬f < atS (qE p) i/\f < atS (qE p) i+zjN x y) by omega),if_neg (show ¬(f < atS (qE p) i/\atS (qE p) i < t) by omega),if_pos (show atS (qE p) i < t/\t<=atS (qE p) i+zjN x y by omega)] at key;exact key.symm),trivial⟩,by dsimp only;omega⟩
     ·have c2:¬t<=atS (qE p) i+zjN x y:=c2;(iterate 2 refine Ar.o ?_);exact ⟨i+1,oM,z0 [(0,some 0),(1,some 1)] ⟨rfl,rfl,rfl,rfl,rfl,congrArg (fun q=>some (i64 q)) (by rw [zvX,← hx,← hy]),congrArg (fun q=>some (i64 q)) oM,trivial⟩ ⟨rfl,congrArg (fun q=>some (Mem.arr 52 ptE 2 q)) (by rw [if_neg (show ¬(¬f < atS (qE p) i/\f < atS (qE p) i+zjN x y) by omega),if_neg (show ¬(f < atS (qE p) i/\atS (qE p) i < t) by omega),if_neg (show ¬(atS (qE p) i < t/\t<=atS (qE p) i+zjN x y) by omega)] at key;exact key.symm),trivial⟩,by dsimp only;omega⟩
    ·have c1:¬atS (qE p) i < t:=c1;(iterate 2 refine Ar.o ?_);exact ⟨i+1,oM,z0 [(0,some 0),(1,some 1)] ⟨rfl,rfl,rfl,rfl,rfl,congrArg (fun q=>some (i64 q)) (by rw [zvX,← hx,← hy]),congrArg (fun q=>some (i64 q)) oM,trivial⟩ ⟨rfl,congrArg (fun q=>some (Mem.arr 52 ptE 2 q)) (by rw [if_neg (show ¬(¬f < atS (qE p) i/\f < atS (qE p) i+zjN x y) by omega),if_neg (show ¬(f < atS (qE p) i/\atS (qE p) i < t) by omega),if_neg (show ¬(atS (qE p) i < t/\t<=atS (qE p) i+zjN x y) by omega)] at key;exact key.symm),trivial⟩,by dsimp only;omega⟩
  ·have b1:¬f < atS (qE p) i:=b1;refine Br.mk (fun c1=>?_) (fun c1=>?_)
   ·have c1:atS (qE p) i < t:=c1;refine Ar.o ?_;refine Br.mk (fun c2=>?_) (fun c2=>?_)
    ·have c2:t<=atS (qE p) i+zjN x y:=c2;refine Dr.d ?_;refine Ar.o ?_;refine Ob.o ?_;intro x' hx';have hx':=hxs x' hx';refine Ob.o ?_;intro y' hy';have hy':=hys y' hy';rw [hx',hy'];refine Ar.o ?_;refine zb.t (zwd x y (t - atS (qE p) i) (zjN x y)) ?_;refine zb.fresh _ _ (zv8 (zv3 (qE p) f t i) (zeY x y (t - atS (qE p) i) (zjN x y)) oM) rfl (fun _ _=>rfl) (.inr (fun _ _=>rfl)) ?_;refine Ob.mk (by kernel_rfl) ?_;(iterate 2 refine Ar.o ?_)
     exact ⟨i+1,oM,z0 [(0,some 0),(1,some 2)] ⟨rfl,rfl,rfl,rfl,rfl,congrArg (fun q=>some (i64 q)) (by rw [zvX,← hx,← hy]),congrArg (fun q=>some (i64 q)) oM,trivial⟩ ⟨rfl,congrArg (fun q=>some (Mem.arr 52 ptE 2 q)) (by rw [if_neg (show ¬(¬f < atS (qE p) i/\f < atS (qE p) i+zjN x y) by omega),if_neg (show ¬(f < atS (qE p) i/\atS (qE p) i < t) by omega),if_pos (show atS (qE p) i < t/\t<=atS (qE p) i+zjN x y by omega)] at key;exact key.symm),trivial⟩,by dsimp only;omega⟩
    ·have c2:¬t<=atS (qE p) i+zjN x y:=c2;(iterate 2 refine Ar.o ?_);exact ⟨i+1,oM,z0 [(0,some 0),(1,some 1)] ⟨rfl,rfl,rfl,rfl,rfl,congrArg (fun q=>some (i64 q)) (by rw [zvX,← hx,← hy]),congrArg (fun q=>some (i64 q)) oM,trivial⟩ ⟨rfl,congrArg (fun q=>some (Mem.arr 52 ptE 2 q)) (by rw [if_neg (show ¬(¬f < atS (qE p) i/\f < atS (qE p) i+zjN x y) by omega),if_neg (show ¬(f < atS (qE p) i/\atS (qE p) i < t) by omega),if_neg (show ¬(atS (qE p) i < t/\t<=atS (qE p) i+zjN x y) by omega)] at key;exact key.symm),trivial⟩,by dsimp only;omega⟩
   ·have c1:¬atS (qE p) i < t:=c1;(iterate 2 refine Ar.o ?_);exact ⟨i+1,oM,z0 [(0,some 0),(1,some 1)] ⟨rfl,rfl,rfl,rfl,rfl,congrArg (fun q=>some (i64 q)) (by rw [zvX,← hx,← hy]),congrArg (fun q=>some (i64 q)) oM,trivial⟩ ⟨rfl,congrArg (fun q=>some (Mem.arr 52 ptE 2 q)) (by rw [if_neg (show ¬(¬f < atS (qE p) i/\f < atS (qE p) i+zjN x y) by omega),if_neg (show ¬(f < atS (qE p) i/\atS (qE p) i < t) by omega),if_neg (show ¬(atS (qE p) i < t/\t<=atS (qE p) i+zjN x y) by omega)] at key;exact key.symm),trivial⟩,by dsimp only;omega⟩
theorem zw3{pen:Pen}{long:Int}{q:Nat×Nat}(h:q∈qh pen long)(h1:q.1=0)(h2:(q.2:Int)=long):qh pen long=[q]:=by
 unfold qh at h ⊢
 split at h
 ·cases h
 ·rename_i k;rw [if_neg k]
  split at h
  ·rename_i k2;rw [if_pos k2];have:=List.mem_singleton.1 h;rw [this]
  ·rename_i k2;rw [if_neg k2];exact zxs h h1 oM
def zwo(p:Pl)(q:Nat×Nat):Pl:=⟨zbq (qE p) q.1 q.2,false⟩
theorem zxk{p:Pl}{pen:Pen}(h:¬(p.cl=true/\zvW pen (qf p)=[(0,(qf p).toNat)]))(hR:zvW pen (qf p)=qh pen (qf p)):
  (qh pen (qf p)).map (ya p)=(qh pen (qf p)).map (zwo p):=by
 refine List.map_congr_left fun q hq=>?_
 unfold ya;refine if_neg fun k=>h ⟨k.1,?_⟩
 rw [hR,zw3 hq k.2.1 k.2.2,← k.2.1,show (qf p).toNat=q.2 by omega]
def zv5(p:Pl)(pen:Pen)(j:Nat):Nat:=qQ (((zvW pen (qf p)).take j).map (zwo p))
theorem zw4{p:Pl}{pen:Pen}{j:Nat}{y:Nat×Nat}(h:(zvW pen (qf p))[j]? =some y):zv5 p pen (j+1)=zv5 p pen j+(zwo p y).pts.length:=by
 unfold zv5;rw [List.take_add_one,h,List.map_append,zmg];show _+qQ [zwo p y]=_;unfold qQ;simp
theorem zxv(p:Pl)(pen:Pen)(j:Nat):zv5 p pen j<=qQ ((zvW pen (qf p)).map (zwo p)):=by
 have e:(zvW pen (qf p)).map (zwo p)=((zvW pen (qf p)).take j).map (zwo p)++((zvW pen (qf p)).drop j).map (zwo p):=by
  rw [← List.map_append,List.take_append_drop]
 rw [e,zmg];exact Nat.le_add_right _ _
theorem zxw(p:Pl)(pen:Pen)(j:Nat):((zvW pen (qf p)).take j).length<=zv5 p pen j:=by
 have:=zfF (l:=((zvW pen (qf p)).take j).map (zwo p)) fun x hx=>by
  obtain ⟨q,hq,rfl⟩:=List.mem_map.1 hx;exact (ztR (qE p) q.1 q.2).1
 rwa [List.length_map] at this
theorem zxS(p:Pl)(pen:Pen)(hp:p.pts.length<=4096):zd Tryz.prog 47 [.agg (plE p),.agg (yi pen)] [] (zm9 (jt p pen)) []:=by
 refine zc tok mix Tryz.func47 rfl rfl rfl ?_
 have es:jt p pen=if ¬k8 pen then ([],13) else if ¬∀q∈p.pts,zo q then ([],6) else if 4096 < p.pts.length then ([],5)
  else if pen.d=[] then ([zE p],0) else if 4096 < qQ ((qh pen (qf p)).map (ya p)) then ([],5) else ((qh pen (qf p)).map (ya p),0):=rfl
 refine zb.t (zta pen) ?_;refine Br.mk (fun k=>?_) (fun k=>?_)
 ·have k:¬k8 pen:=k;exact ju (by rw [es,if_pos k])
 have k:k8 pen:=Decidable.not_not.1 k;rw [zV k] at es;refine zb.t (zwN p.pts) ?_;refine Br.mk (fun ok=>?_) (fun ok=>?_)
 ·have ok:¬∀q∈p.pts,zo q:=ok;exact ju (by rw [es,if_pos ok])
 have ok:∀q∈p.pts,zo q:=Decidable.not_not.1 ok;rw [zV ok,if_neg (show ¬4096 < p.pts.length by omega)] at es;intro hl1;refine Br.mk (fun h=>absurd (show (4096:Int) < p.pts.length from h) oM) (fun _=>?_);have lr:=znl p hp;have dl:=yM p;have ll:=yd (zE p);rw [← zaE] at ll;refine zb.t (zww p hp ok) ?_;refine zb.t (zxR pen (qf p) k oM) ?_;have hr:=zwy pen (qf p);have rl:=zv7 (zvW pen (qf p));intro hl2
 have whole:pen.d=[]∨(p.cl=true/\zvW pen (qf p)=[(0,(qf p).toNat)])->jt p pen=([zE p],0):=fun h=>by
  by_cases z:pen.d=[]
  ·rw [es,if_pos z]
  ·obtain ⟨c,e⟩:=h.resolve_left z
   have eP:qh pen (qf p)=[(0,(qf p).toNat)]:=by
    rcases hr.1 with h | h
    ·rw [← h,e]
    ·rw [e] at h;exact absurd h.1 (by simp)
   have q1:=hr.2 (0,(qf p).toNat) (by rw [e];exact .head _)
   have ed:(qh pen (qf p)).map (ya p)=[zE p]:=by
    rw [eP];show [ya p (0,(qf p).toNat)]=_;unfold ya;rw [if_pos ⟨c,rfl,by dsimp only;omega⟩]
   rw [es,if_neg z,ed,if_neg];unfold qQ;simp;omega
 have W:LE (.tup [.sl plE [zE p],i64 0]) (zm9 ([zE p],0)):=.refl;refine Br.mk (fun z=>?_) (fun z=>?_)
 ·have z:(pen.d.length:Int)=0:=z;have z:pen.d=[]:=List.eq_nil_of_length_eq_zero oM;refine zb.t (zwi p hp) ?_;refine ⟨Pl,plE,[zE p],rfl,Ob.o0 ?_⟩;rw [whole (.inl z)];exact W
 have z:¬(pen.d.length:Int)=0:=z;rw [if_neg (fun h=>z (by rw [h];rfl))] at es
 have hq0:∀u,(rI (zvW pen (qf p)))[0]? =some u->((rI (zvW pen (qf p))).length:Int)=1->(u.1=0/\u.2=qf p↔zvW pen (qf p)=[(0,(qf p).toNat)]):=fun u hu n1=>by
  obtain ⟨q,hq,huq⟩:=zwQ hu;have n1:(zvW pen (qf p)).length=1:=oM;obtain ⟨q',hq'⟩:=List.length_eq_one_iff.1 n1;rw [hq'] at hq ⊢
  cases hq
  constructor
  ·rintro ⟨a,b⟩
   rw [huq] at a b;dsimp only at a b;rw [show q=(q.1,q.2) from rfl,show q.1=0 by omega,show q.2=(qf p).toNat by omega]
  ·intro h;have e:q=(0,(qf p).toNat):=List.singleton_inj.1 h;rw [huq,e];exact ⟨rfl,by dsimp only;omega⟩
 refine Br.mk (fun c=>fun hl3=>Br.mk (fun n1=>Ob.mk (by have n1:((rI (zvW pen (qf p))).length:Int)=1:=n1;omega) fun u hu=>Br.mk (fun e=>?_) (fun e=>?_)) (fun n1=>?_)) (fun c=>?_)
 ·have e:u.1=0/\u.2=qf p/\True:=e;refine zb.t (zwi p hp) ?_;refine ⟨Pl,plE,[zE p],rfl,Ob.o0 ?_⟩;rw [whole (.inr ⟨c,(hq0 u hu n1).1 ⟨e.1,e.2.1⟩⟩)];exact W
 all_goals
  have hnw:¬(p.cl=true/\zvW pen (qf p)=[(0,(qf p).toNat)]):=by
   first
   | exact fun h=>e ⟨((hq0 u hu n1).2 h.2).1,((hq0 u hu n1).2 h.2).2,trivial⟩
   | exact fun h=>n1 (show ((rI (zvW pen (qf p))).length:Int)=1 by rw [zv7,h.2];rfl)
   | exact fun h=>c h.1
  have ed:=zxk hnw
  have bad:∀i,4096 < zv5 p pen i->jt p pen=([],5):=fun i h=>by
   rw [es,if_pos ?_]
   rcases hr.1 with hR | hR
   ·rw [ed hR,← hR];exact Nat.lt_of_lt_of_le h (zxv p pen i)
   ·have:=zfF (l:=(qh pen (qf p)).map (ya p)) fun x hx=>by
     obtain ⟨q,hq,rfl⟩:=List.mem_map.1 hx;exact (zeJ hp hq).1
    rw [List.length_map] at this;omega
  refine ⟨Pl,plE,[],rfl,Ob.o2 ?_⟩;refine ⟨Nat,fun i=>⟨[(2,.loc 0 0),(7,.sl zv2 (rI (zvW pen (qf p)))),(8,.own 1),(9,i64 (zv5 p pen i:Int)),(10,i64 (i:Int))],[(0,.box 85 [.sl ptE p.pts,pr (p.cl=true)]),(1,.arr 85 plE 2 (((zvW pen (qf p)).take i).map (zwo p)))],2,83,0⟩,fun i=>i<=(zvW pen (qf p)).length/\zv5 p pen i<=4096,fun i=>(zvW pen (qf p)).length - i,0,?_,?_,?_⟩
  ·exact ⟨Nat.zero_le _,Nat.zero_le _⟩
  ·exact zh [(0,some 0),(1,some 2)]
  rintro i ⟨h1,h2⟩
  have cg:=zxw p pen i;intro hl4;refine Br.mk (fun g=>?_) (fun g=>?_);rotate_left
  ·have g:¬(i:Int) < ((rI (zvW pen (qf p))).length:Int):=g;have et:(zvW pen (qf p)).take i=zvW pen (qf p):=List.take_of_length_le oM;have hR:=hr.1.resolve_right fun h=>by rw [et] at cg;omega
   unfold zv5 at h2;rw [et,hR,← ed hR] at h2;rw [es,if_neg oM];exact zS (qb (by rw [et,hR,ed hR])) .refl
  have g:(i:Int) < ((rI (zvW pen (qf p))).length:Int):=g;refine Dr.d ?_;refine Ob.o ?_;intro z hz;obtain ⟨q,hq,hzq⟩:=zwQ (show (rI (zvW pen (qf p)))[i]? =some z from hz);refine Ob.o ?_;intro z' hz';have hzz:z'=z:=Option.some.inj (hz'.symm.trans hz);rw [hzz];have f:=hr.2 q (List.mem_of_getElem? hq);have cs:=zw4 hq;have cl:=ztR (qE p) q.1 q.2;have ez1:z.1=(q.1:Int):=by rw [hzq]
  have ez2:z.2=(q.2:Int):=by rw [hzq]
  have ez:zbq (qE p) z.1 z.2=zbq (qE p) q.1 q.2:=by rw [ez1,ez2]
  refine zb.t (zxu p z.1 z.2 hp ok oM oM oM) ?_;refine Ob.mk (by kernel_rfl) ?_;have cs:zv5 p pen (i+1)=zv5 p pen i+(zbq (qE p) z.1 z.2).length:=by rw [ez];exact cs
  rw [← ez] at cl;intro hl5;refine Ar.fit (show -9223372036854775808<=(zv5 p pen i:Int)+((zbq (qE p) z.1 z.2).length:Int)/\(zv5 p pen i:Int)+((zbq (qE p) z.1 z.2).length:Int)<=9223372036854775807 by omega) ?_;refine Br.mk (fun o=>?_) (fun o=>?_)
  ·have o:(4096:Int) < (zv5 p pen i:Int)+((zbq (qE p) z.1 z.2).length:Int):=o;exact ju (bad (i+1) oM)
  have o:¬(4096:Int) < (zv5 p pen i:Int)+((zbq (qE p) z.1 z.2).length:Int):=o;refine ⟨Pl,plE,[⟨zbq (qE p) z.1 z.2,false⟩],rfl,Ob.o0 ?_⟩;refine ⟨[⟨zbq (qE p) z.1 z.2,false⟩],rfl,Ob.mk ⟨(by show _*(32:Int)<=_;simp only [List.length_map,List.length_cons,List.length_nil];omega),(by simp only [List.length_map,List.length_cons,List.length_nil];omega),dC,fun _ _=>rfl⟩ ?_⟩;refine Ar.o ?_
  exact ⟨i+1,⟨oM,oM⟩,z0 [(0,some 0),(1,some 4)] ⟨rfl,rfl,rfl,congrArg (fun n=>some (i64 n)) (show (zv5 p pen i:Int)+((zbq (qE p) z.1 z.2).length:Int)=((zv5 p pen (i+1):Nat):Int) by omega),rfl,trivial⟩ ⟨rfl,congrArg (fun q=>some (Mem.arr 85 plE 2 q)) (by rw [List.take_add_one,hq,List.map_append,ez];rfl),trivial⟩,by dsimp only;omega⟩
end Go.Gs
