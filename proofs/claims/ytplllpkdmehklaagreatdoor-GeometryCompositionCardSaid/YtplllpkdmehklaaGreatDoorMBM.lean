/- The rings of a stroke, both texts joined. -/
import Derived.Test.YtplllpkdmehklaaGreatDoorMA
import Derived.Test.YtplllpkdmehklaaGreatDoorMBL
import Derived.Test.YtplllpkdmehklaaGreatDoorMBE
set_option maxRecDepth 100000
set_option maxHeartbeats 8000000
set_option linter.all false
namespace Go.Gs
open Go.Proofs
theorem zxi{p:Pl}{pen:Pen}(h:p.pts.length=1):zdd p pen=qV (zeJ (nth p.pts 0) pen):=by unfold zdd;rw [if_pos h]
theorem zxj{p:Pl}{pen:Pen}(h:1 < p.pts.length)(k:¬p.cl=true):zdd p pen=qV (zbl (nth p.pts 1) (nth p.pts 0) pen)++qV (zbl (nth p.pts (p.pts.length - 2)) (nth p.pts (p.pts.length - 1)) pen):=by
 unfold zdd;rw [if_neg (show ¬p.pts.length=1 by omega),if_pos ⟨h,k⟩]
theorem zsk{p:Pl}{pen:Pen}(h:¬p.pts.length=1)(k:¬(1 < p.pts.length/\¬p.cl=true)):zdd p pen=[]:=by
 unfold zdd;rw [if_neg h,if_neg k]
theorem zxk(p:Pl)(pen:Pen):(zdd p pen).length<=2:=by
 unfold zdd
 split
 ·have:=vQ (zeJ (nth p.pts 0) pen);omega
 ·split
  ·have h1:=vQ (zbl (nth p.pts 1) (nth p.pts 0) pen);have h2:=vQ (zbl (nth p.pts (p.pts.length - 2)) (nth p.pts (p.pts.length - 1)) pen);rw [List.length_append];omega
  ·decide
theorem zqL(p:Pl)(pen:Pen):(qA p pen).length<=2*p.pts.length+3:=by
 unfold qA;rw [List.length_append,List.length_append];have h1:=zjn p pen;have h2:=zt9 p pen;have h3:=zxk p pen;omega
theorem zll{p:Pl}{pen:Pen}(h:¬1 < p.pts.length):jZ p pen=zmQ p.pts pen.w (p.pts.length - 1):=by
 rw [zbD,if_neg (fun k=>h k.2),List.append_nil]
theorem zoZ{p:Pl}{pen:Pen}(h:p.pts.length<=1):zi8 p pen=[]:=by rw [zdm,if_pos h]
theorem zqM{p:Pl}{pen:Pen}(h:p.pts.length=0):qA p pen=[]:=by
 unfold qA;rw [zll oM,zoZ oM,zsk oM oM,h];rfl
theorem zqN{p:Pl}{pen:Pen}(h:p.pts.length=1):qA p pen=qV (zeJ (nth p.pts 0) pen):=by
 unfold qA;rw [zll oM,zoZ oM,zxi h,h];rfl
def zjp(p:Pl)(pen:Pen)(n:Nat):List (List Pt):=(List.range n).flatMap fun i=>qV (uN (nth p.pts i) (nth p.pts ((i+1) % p.pts.length)) pen.w)
theorem zd8(p:Pl)(pen:Pen)(n:Nat):zjp p pen (n+1)=zjp p pen n++qV (uN (nth p.pts n) (nth p.pts ((n+1) % p.pts.length)) pen.w):=by
 unfold zjp;rw [List.range_succ,List.flatMap_append,List.flatMap_singleton]
theorem zmR(p:Pl)(pen:Pen):∀n,n < p.pts.length->zjp p pen n=zmQ p.pts pen.w n
 | 0,_=>rfl
 | n+1,h=>by rw [zd8,zli,zmR p pen n oM,Nat.mod_eq_of_lt h]
theorem zxl(p:Pl)(pen:Pen)(n:Nat):(zjp p pen n).length<=n:=by
 induction n with
 | zero=>exact Nat.le_refl 0
 | succ n ih=>
  rw [zd8,List.length_append];have:=vQ (uN (nth p.pts n) (nth p.pts ((n+1) % p.pts.length)) pen.w);omega
def zdn(p:Pl):Nat:=if p.cl=true then p.pts.length else p.pts.length - 1
theorem zo0{p:Pl}(h:p.cl=true):zdn p=p.pts.length:=if_pos h
theorem zsl{p:Pl}(h:¬p.cl=true):zdn p=p.pts.length - 1:=if_neg h
theorem zzs(p:Pl):zdn p<=p.pts.length:=by unfold zdn;split <;> omega
theorem zxm{p:Pl}{pen:Pen}(h:1 < p.pts.length):zjp p pen (zdn p)=jZ p pen:=by
 rw [zbD]
 by_cases c:p.cl=true
 ·rw [zo0 c,if_pos ⟨c,h⟩];obtain ⟨m,hm⟩:∃m,p.pts.length=m+1:=⟨p.pts.length - 1,oM⟩;rw [hm,zd8,zmR p pen m oM,hm,Nat.mod_self];rfl
 ·rw [zsl c,if_neg (fun h=>c h.1),zmR p pen _ oM,List.append_nil]
theorem zzt(p:Pl)(pen:Pen)(hp:p.pts.length<=4096):zd Tryz.prog 259 [.agg (plE p),.agg (ue pen)] [] (.sl zu (qA p pen)) []:=by
 refine zc tok mix Tryz.func259 rfl rfl rfl ?_;intro hl1;refine Br.mk (fun n0=>?_) (fun n0=>?_)
 ·have n0:(p.pts.length:Int)=0:=n0;rw [zqM oM];exact zC
 have n0:¬(p.pts.length:Int)=0:=n0;refine Br.mk (fun n1=>?_) (fun n1=>?_)
 ·have n1:(p.pts.length:Int)=1:=n1;refine Dr.d ?_;refine Ob.o ?_;intro x hx;have hx:=uG (show p.pts[0]? =some x from hx);refine zb.t (zxc x pen) ?_;refine ⟨List Pt,zu,[zeJ x pen],rfl,Ob.o0 ?_⟩
  refine zb.give [2,5] 1 [.own 1,.loc 0 0] [(0,.box 56 [.val (.slice none 0 0)]),(1,.arr 87 zu 1 [zeJ x pen])] [(0,.box 56 [.own 2]),(2,.arr 87 zu 1 (u9 [] [zeJ x pen]))] (.tup []) (zBP [zeJ x pen] (by simp))
   LEs.refl rfl rfl rfl ⟨⟨_,rfl,rfl,rfl⟩,⟨_,rfl,rfl,trivial⟩,trivial⟩ rfl ⟨⟨rfl,rfl⟩,⟨rfl,trivial⟩,trivial⟩ ?_
  refine Ob.mk (by kernel_rfl) ?_;refine qy ?_;rw [zqN oM,← hx,zoX];rfl
 have n1:¬(p.pts.length:Int)=1:=n1;refine Ar.o ?_;have h2:1 < p.pts.length:=oM;refine Br.mk (fun c=>?C) (fun c=>?D)
 case' C=>
  have c:p.cl=true:=c;have hL:=zo0 c
 case' D=>
  have c:¬p.cl=true:=c;have hL:=zsl c
 all_goals
  have hle:=zzs p;refine ⟨Nat,fun i=>⟨[(2,.loc 0 0),(3,.loc 1 0),(5,.loc 2 0),(6,.fn 291 [.loc 2 0]),(7,.loc 3 0),(8,.loc 4 0),(9,.fn 293 [.loc 3 0,.loc 4 0]),(39,i64 (zdn p:Int)),(40,i64 (i:Int))],[(0,.box 186 [.sl ptE p.pts,pr (p.cl=true)]),(1,.box 46 (ue pen)),(2,.box 56 [.own 5]),(3,.box 87 [.sl ptE p.pts]),(4,.box 3 [i64 (p.pts.length:Int)]),(5,.arr 87 zu 1 (zjp p pen i))],6,121,0⟩,fun i=>i<=zdn p,fun i=>zdn p - i,0,?_,?_,?_⟩
  ·exact Nat.zero_le _
  ·exact z9 [(0,some 0),(1,some 1),(2,some 2),(3,some 3),(4,some 4),(5,none)] ⟨rfl,rfl,rfl,rfl,rfl,rfl,rfl,congrArg (fun n=>some (i64 n)) oM,rfl,trivial⟩ ⟨rfl,rfl,rfl,rfl,rfl,rfl,trivial⟩
  rintro i hi
  have bl:=zxl p pen i;refine Br.mk (fun g=>?_) (fun g=>?_)
  ·have g:(i:Int) < zdn p:=g;refine Dr.d ?_;refine Ob.o ?_;intro x hx;have hx:=uG (show p.pts[i]? =some x from hx);refine Ar.o ?_;refine zb.t (zqK p.pts ((i:Int)+1) ((i+1) % p.pts.length) ⟨oM,hp⟩ ⟨oM,oM⟩ (by rw [show (i:Int)+1+p.pts.length=((i+1:Nat):Int)+(p.pts.length:Int) by omega,Int.add_emod_right];omega)) ?_;refine zb.t (zBA x (nth p.pts ((i+1) % p.pts.length)) pen.w) ?_;refine ⟨List Pt,zu,[uN x (nth p.pts ((i+1) % p.pts.length)) pen.w],rfl,Ob.o0 ?_⟩
   refine zb.give [2,5,6] 1 [.own 2,.loc 0 0] [(0,.box 56 [.own 1]),(1,.arr 87 zu 1 (zjp p pen i)),(2,.arr 87 zu 1 [uN x (nth p.pts ((i+1) % p.pts.length)) pen.w])] [(0,.box 56 [.own 3]),(3,.arr 87 zu 1 (u9 (zjp p pen i) [uN x (nth p.pts ((i+1) % p.pts.length)) pen.w]))] (.tup []) (zxf (zjp p pen i) [uN x (nth p.pts ((i+1) % p.pts.length)) pen.w] oM (by simp))
      LEs.refl rfl rfl rfl ⟨⟨_,rfl,rfl,rfl⟩,⟨_,rfl,rfl,trivial⟩,⟨_,rfl,rfl,trivial⟩,trivial⟩ rfl ⟨⟨rfl,rfl⟩,⟨rfl,trivial⟩,trivial⟩ ?_
   refine Ob.mk (by kernel_rfl) ?_;refine Ar.o ?_;refine ⟨i+1,oM,zY [(0,some 0),(1,some 1),(2,some 2),(3,some 3),(4,some 4),(5,some 7)] ⟨rfl,rfl,rfl,rfl,rfl,congrArg (fun q=>some (Mem.arr 87 zu 1 q)) (by rw [zd8,zoX,hx]),trivial⟩,by dsimp only;omega⟩
  have g:¬(i:Int) < zdn p:=g;have eb:zjp p pen i=jZ p pen:=by rw [← zxm h2,show i=zdn p by omega]
  refine ⟨Nat,fun i=>⟨[(2,.loc 0 0),(3,.loc 1 0),(5,.loc 2 0),(6,.fn 291 [.loc 2 0]),(7,.loc 3 0),(8,.loc 4 0),(9,.fn 293 [.loc 3 0,.loc 4 0]),(58,i64 (p.pts.length:Int)),(59,i64 (i:Int))],[(0,.box 186 [.sl ptE p.pts,pr (p.cl=true)]),(1,.box 46 (ue pen)),(2,.box 56 [.own 5]),(3,.box 87 [.sl ptE p.pts]),(4,.box 3 [i64 (p.pts.length:Int)]),(5,.arr 87 zu 1 (jZ p pen++vf p pen i))],6,121,0⟩,fun i=>i<=p.pts.length,fun i=>p.pts.length - i,0,?_,?_,?_⟩
  ·exact Nat.zero_le _
  ·exact zY [(0,some 0),(1,some 1),(2,some 2),(3,some 3),(4,some 4),(5,some 5)] ⟨rfl,rfl,rfl,rfl,rfl,congrArg (fun q=>some (Mem.arr 87 zu 1 q)) (by rw [eb];exact (List.append_nil _).symm),trivial⟩
  rintro i hi
  have lb:=zjn p pen;have lj:=zlk p pen i;have ll:(jZ p pen++vf p pen i).length<=50000:=by rw [List.length_append];omega
  have ej:=zjo p pen i;refine Br.mk (fun g=>?_) (fun g=>?_);rotate_left
  ·have g:¬(i:Int) < p.pts.length:=g;have ei:vf p pen i=zi8 p pen:=by rw [zdm,if_neg oM,show i=p.pts.length by omega]
   refine Br.mk (fun o=>?_) (fun o=>?_);rotate_left
   ·refine qy ?_;unfold qA;rw [ei,zsk oM (fun h=>o h.2),List.append_nil]
   have o:¬p.cl=true:=o;refine Dr.d ?_;refine Ob.o ?_;intro x hx;have hx:=uG (show p.pts[1]? =some x from hx);refine Ob.o ?_;intro y hy;have hy:=uG (show p.pts[0]? =some y from hy);refine zb.t (zAE x y pen) ?_;refine Ar.o ?_;refine Ob.o ?_;intro u hu;have hu:=uG (show p.pts[((p.pts.length:Int) - 2).toNat]? =some u from hu);rw [show ((p.pts.length:Int) - 2).toNat=p.pts.length - 2 by omega] at hu;refine Ar.o ?_;refine Ob.o ?_;intro v hv;have hv:=uG (show p.pts[((p.pts.length:Int) - 1).toNat]? =some v from hv)
   rw [show ((p.pts.length:Int) - 1).toNat=p.pts.length - 1 by omega] at hv;refine zb.t (zAE u v pen) ?_;refine ⟨List Pt,zu,[zbl x y pen,zbl u v pen],rfl,Ob.o0 ?_⟩
   refine zb.give [2,5,6] 1 [.own 2,.loc 0 0] [(0,.box 56 [.own 1]),(1,.arr 87 zu 1 (jZ p pen++vf p pen i)),(2,.arr 87 zu 1 [zbl x y pen,zbl u v pen])] [(0,.box 56 [.own 3]),(3,.arr 87 zu 1 (u9 (jZ p pen++vf p pen i) [zbl x y pen,zbl u v pen]))] (.tup []) (zxf (jZ p pen++vf p pen i) [zbl x y pen,zbl u v pen] oM (by simp))
      LEs.refl rfl rfl rfl ⟨⟨_,rfl,rfl,rfl⟩,⟨_,rfl,rfl,trivial⟩,⟨_,rfl,rfl,trivial⟩,trivial⟩ rfl ⟨⟨rfl,rfl⟩,⟨rfl,trivial⟩,trivial⟩ ?_
   refine Ob.mk (by kernel_rfl) ?_;refine qy ?_;unfold qA;rw [zxd,ei,zxj h2 o,hx,hy,hu,hv];exact List.append_assoc ..
  have g:(i:Int) < p.pts.length:=g
  have skip:¬p.cl=true->i=0∨i=p.pts.length - 1->jZ p pen++vf p pen i=jZ p pen++vf p pen (i+1):=fun h k=>by
   rw [ej,show zhj p pen i=[] from if_pos ⟨h,k⟩,List.append_nil]
  refine Br.mk (fun k=>?_) (fun k=>Br.mk (fun k1=>Ar.fit oM (Br.mk (fun k2=>?_) (fun k2=>?_))) (fun k1=>?_));rotate_left 2
  ·have k2:¬(i:Int) < (p.pts.length:Int) - 1:=k2;refine Ar.o ?_;exact ⟨i+1,oM,zY [(0,some 0),(1,some 1),(2,some 2),(3,some 3),(4,some 4),(5,some 5)] ⟨rfl,rfl,rfl,rfl,rfl,congrArg (fun q=>some (Mem.arr 87 zu 1 q)) (skip k (.inr oM)),trivial⟩,by dsimp only;omega⟩
  ·have k1:¬(0:Int) < (i:Int):=k1;refine Ar.o ?_;exact ⟨i+1,oM,zY [(0,some 0),(1,some 1),(2,some 2),(3,some 3),(4,some 4),(5,some 5)] ⟨rfl,rfl,rfl,rfl,rfl,congrArg (fun q=>some (Mem.arr 87 zu 1 q)) (skip k (.inl oM)),trivial⟩,by dsimp only;omega⟩
  all_goals
   have kk:¬(¬p.cl=true/\(i=0∨i=p.pts.length - 1)):=by
    first
    | exact fun h=>h.1 k
    | exact fun h=>absurd h.2 (by have k1:(0:Int) < (i:Int):=k1;have k2:(i:Int) < (p.pts.length:Int) - 1:=k2;omega)
   refine Dr.d ?_;refine Ar.o ?_;refine zb.t (zqK p.pts ((i:Int) - 1) ((i+p.pts.length - 1) % p.pts.length) ⟨oM,hp⟩ ⟨oM,oM⟩ (by rw [show (i:Int) - 1+p.pts.length=((i+p.pts.length - 1:Nat):Int) by omega];omega)) ?_;refine Ob.o ?_;intro x hx;have hx:=uG (show p.pts[i]? =some x from hx);refine Ar.o ?_;refine zb.t (zqK p.pts ((i:Int)+1) ((i+1) % p.pts.length) ⟨oM,hp⟩ ⟨oM,oM⟩ (by rw [show (i:Int)+1+p.pts.length=((i+1:Nat):Int)+(p.pts.length:Int) by omega,Int.add_emod_right];omega)) ?_
   refine zb.t (zBJ (nth p.pts ((i+p.pts.length - 1) % p.pts.length)) x (nth p.pts ((i+1) % p.pts.length)) pen) ?_;have jl:=zlj (nth p.pts ((i+p.pts.length - 1) % p.pts.length)) x (nth p.pts ((i+1) % p.pts.length)) pen
   refine zb.give [2,5] 1 [.sl zu (vd (nth p.pts ((i+p.pts.length - 1) % p.pts.length)) x (nth p.pts ((i+1) % p.pts.length)) pen),.loc 0 0] [(0,.box 56 [.own 1]),(1,.arr 87 zu 1 (jZ p pen++vf p pen i))] [(0,.box 56 [.own 2]),(2,.arr 87 zu 1 (u9 (jZ p pen++vf p pen i) (vd (nth p.pts ((i+p.pts.length - 1) % p.pts.length)) x (nth p.pts ((i+1) % p.pts.length)) pen)))] (.tup []) (zBQ (jZ p pen++vf p pen i) (vd (nth p.pts ((i+p.pts.length - 1) % p.pts.length)) x (nth p.pts ((i+1) % p.pts.length)) pen) oM oM)
    LEs.refl rfl rfl rfl ⟨⟨_,rfl,rfl,rfl⟩,⟨_,rfl,rfl,trivial⟩,trivial⟩ rfl ⟨⟨rfl,rfl⟩,⟨rfl,trivial⟩,trivial⟩ ?_
   refine Ob.mk (by kernel_rfl) ?_;refine Ar.o ?_;refine ⟨i+1,oM,zY [(0,some 0),(1,some 1),(2,some 2),(3,some 3),(4,some 4),(5,some 6)] ⟨rfl,rfl,rfl,rfl,rfl,congrArg (fun q=>some (Mem.arr 87 zu 1 q)) ?_,trivial⟩,by dsimp only;omega⟩;rw [zxe zsj,ej,show zhj p pen i=vd (nth p.pts ((i+p.pts.length - 1) % p.pts.length)) (nth p.pts i) (nth p.pts ((i+1) % p.pts.length)) pen from if_neg kk,hx];exact List.append_assoc ..
theorem zbE{r:List Pt}{k:Nat}(h:r.length<=k):(qO r).length<=k:=by have:=zql r;omega
theorem zxn(a b:Pt)(w:Int):(uN a b w).length<=16:=by
 unfold uN
 split
 ·simp
 ·exact zbE (by simp)
theorem zqO(a:Pt)(w:Int):(zcx a w).length<=16:=by
 unfold zcx
 split
 ·simp
 ·exact zbE (by rw [List.length_map];decide)
theorem cap_l(a b:Pt)(w:Int):(zqm a b w).length<=16:=by
 unfold zqm
 split
 ·simp
 ·exact zbE (by simp)
theorem zBS(a:Pt)(w:Int):(zi2 a w).length<=16:=by
 unfold zi2
 split
 ·simp
 ·exact zbE (by simp)
theorem end_l(a b:Pt)(p:Pen):(zbl a b p).length<=16:=by
 unfold zbl
 split
 ·exact cap_l ..
 ·split
  ·exact zqO ..
  ·simp
theorem dot_l(a:Pt)(p:Pen):(zeJ a p).length<=16:=by
 unfold zeJ
 split
 ·exact zBS ..
 ·split
  ·exact zqO ..
  ·simp
theorem zd9{r q:List Pt}{k:Nat}(h:r.length<=k)(hq:q∈qV r):q.length<=k:=by rw [ztQ hq];exact h
theorem zBT{a v b:Pt}{p:Pen}:∀r∈vd a v b p,r.length<=16:=by
 intro r hr;unfold vd at hr
 split at hr
 ·cases hr
 ·split at hr
  ·exact zd9 (zqO ..) hr
  ·split at hr
   ·cases hr
   ·refine zd9 (zbE ?_) hr
    split <;> simp
theorem zBU{p:Pl}{pen:Pen}:∀r∈qA p pen,r.length<=16:=by
 intro r hr;unfold qA at hr
 rcases List.mem_append.1 hr with hr | hr
 ·rcases List.mem_append.1 hr with hr | hr
  ·rw [zbD] at hr
   rcases List.mem_append.1 hr with hr | hr
   ·unfold zmQ at hr;obtain ⟨i,_,hr⟩:=List.mem_flatMap.1 hr;exact zd9 (zxn ..) hr
   ·split at hr
    ·exact zd9 (zxn ..) hr
    ·cases hr
  ·rw [zdm] at hr
   split at hr
   ·cases hr
   ·unfold vf at hr;obtain ⟨i,_,hr⟩:=List.mem_flatMap.1 hr;unfold zhj at hr
    split at hr
    ·cases hr
    ·exact zBT r hr
 ·unfold zdd at hr
  split at hr
  ·exact zd9 (dot_l ..) hr
  ·split at hr
   ·rcases List.mem_append.1 hr with hr | hr <;> exact zd9 (end_l ..) hr
   ·cases hr
theorem zfQ(r:List Pt)(rs:List (List Pt)):qh (r::rs)=r.length+qh rs:=by unfold qh;simp
theorem zzu(a b:List (List Pt)):qh (a++b)=qh a+qh b:=by unfold qh;simp
theorem zsm{k:Nat}:∀{rs:List (List Pt)},(∀r∈rs,r.length<=k)->qh rs<=k*rs.length
 | [],_=>Nat.zero_le _
 | r::rs,h=>by
  have h1:=h r (.head _);have h2:=zsm fun q hq=>h q (.tail _ hq)
  rw [zfQ,List.length_cons,Nat.mul_succ];omega
theorem uH(p:Pl):(zL p).pts.length<=p.pts.length:=by
 have h:=zlh p.pts;unfold zL;dsimp only
 split
 ·unfold qi
  split
  ·rw [List.length_dropLast];omega
  ·exact h
 ·exact h
theorem zlm{p:Pl}{pen:Pen}(hp:p.pts.length<=4096):qh (qA (zL p) pen)<=200000/\(qA (zL p) pen).length<=10000:=by
 have h1:=zsm (zBU (p:=zL p) (pen:=pen));have h2:=zqL (zL p) pen;have h3:=uH p;omega
def rgE(c:List (List Pt)×Int):SV:=.tup [.sl zu c.1,i64 c.2]
theorem yP{c:List (List Pt)×Int}{e:Int}(h:c=([],e)):LE (.tup [.val (.slice none 0 0),i64 e]) (rgE c):=by
 rw [h];exact zU zC .refl
theorem zqP(p:Pl)(pen:Pen)(hp:p.pts.length<=4096):zd Tryz.prog 210 [.agg (plE p),.agg (ue pen)] [] (rgE (qu p pen)) []:=by
 refine zc tok mix Tryz.func210 rfl rfl rfl ?_
 have es:qu p pen=if ¬qa pen then ([],13) else if ¬∀q∈p.pts,zn q then ([],6) else if 4096 < p.pts.length then ([],5)
  else if ¬zaS (qA (zL p) pen) then ([],6) else if 4096 < qh (qA (zL p) pen) then ([],5) else (qA (zL p) pen,0):=rfl
 refine zb.t (zd2 pen) ?_;refine Br.mk (fun k=>?_) (fun k=>?_)
 ·have k:¬qa pen:=k;exact yP (by rw [es,if_pos k])
 have k:qa pen:=Decidable.not_not.1 k;rw [qo k] at es;refine ⟨List Pt,zu,[p.pts],rfl,Ob.o0 ?_⟩;have c1:qh [p.pts]=p.pts.length:=by rw [zfQ];rfl
 refine zb.t (zjm [p.pts] oM) ?_;have a1:zaS [p.pts]↔∀q∈p.pts,zn q:=⟨fun h=>h _ (.head _),fun h r hr=>by rw [List.mem_singleton.1 hr];exact h⟩;refine Br.mk (fun k2=>?_) (fun k2=>?_)
 ·have k2:¬∀q∈p.pts,zn q:=fun h=>k2 (a1.2 h)
  exact yP (by rw [es,if_pos k2])
 have k2:∀q∈p.pts,zn q:=a1.1 (Decidable.not_not.1 k2);rw [qo k2,if_neg (show ¬4096 < p.pts.length by omega)] at es;intro hl1;refine Br.mk (fun k3=>?_) (fun _=>?_)
 ·have k3:(4096:Int) < p.pts.length:=k3;omega
 have rc:=zlm (pen:=pen) hp;refine Dr.d ?_;refine zb.t (zfP p hp) ?_;refine zb.t (zzt (zL p) pen (by have:=uH p;omega)) ?_;refine Ob.mk (by kernel_rfl) ?_;refine zb.t (zjm (qA (zL p) pen) oM) ?_;refine Br.mk (fun k4=>?_) (fun k4=>?_)
 ·have k4:¬zaS (qA (zL p) pen):=k4;exact yP (by rw [es,if_pos k4])
 have k4:zaS (qA (zL p) pen):=Decidable.not_not.1 k4;rw [qo k4] at es;refine Br.mk (fun k5=>?_) (fun k5=>?_)
 ·have k5:(4096:Int) < (if zaS (qA (zL p) pen) then (qh (qA (zL p) pen):Int) else 0):=k5;rw [if_pos k4] at k5;exact yP (by rw [es,if_pos oM])
 have k5:¬(4096:Int) < (if zaS (qA (zL p) pen) then (qh (qA (zL p) pen):Int) else 0):=k5;rw [if_pos k4] at k5;rw [if_neg (show ¬4096 < qh (qA (zL p) pen) by omega)] at es;rw [es];exact .refl
def zdo(l:List Pl)(pen:Pen):List (List Pt):=l.flatMap fun p=>(qu p pen).1
theorem zua{l:List Pl}{pen:Pen}{i:Nat}{x:Pl}(h:l[i]? =some x):zdo (l.take (i+1)) pen=zdo (l.take i) pen++(qu x pen).1:=by
 unfold zdo;rw [List.take_add_one,h,List.flatMap_append];simp
theorem zhk{pen:Pen}:∀{l:List Pl},(∀p∈l,(qu p pen).2=0)->qB l pen=(zdo l pen,0)
 | [],_=>rfl
 | p::r,h=>by
  have ih:=zhk fun q hq=>h q (.tail _ hq)
  unfold qB;rw [jQ (h p (.head _)),ih];rfl
theorem zfR{pen:Pen}:∀{l:List Pl} {i:Nat} {x:Pl},l[i]? =some x->(∀p∈l.take i,(qu p pen).2=0)->¬(qu x pen).2=0->qB l pen=([],(qu x pen).2)
 | p::r,0,x,h,_,hx=>by
  cases h
  unfold qB;rw [if_pos hx]
 | p::r,i+1,x,h,ha,hx=>by
  have ih:=zfR (l:=r) (i:=i) h (fun q hq=>ha q (by rw [List.take_succ_cons];exact .tail _ hq)) hx;unfold qB;rw [jQ (ha p (by rw [List.take_succ_cons];exact .head _)),ih];exact if_pos hx
theorem zfS{p:Pl}{pen:Pen}(h:(qu p pen).2=0)(hp:p.pts.length<=4096):zaS (qu p pen).1/\qh (qu p pen).1<=4096/\(qu p pen).1.length<=10000:=by
 have rc:=zlm (pen:=pen) hp;unfold qu at h ⊢
 split at h <;> rename_i k1
 ·cases h
 rw [if_neg k1]
 split at h <;> rename_i k2
 ·cases h
 rw [if_neg k2]
 split at h <;> rename_i k3
 ·cases h
 rw [if_neg k3]
 split at h <;> rename_i k4
 ·cases h
 rw [if_neg k4]
 split at h <;> rename_i k5
 ·cases h
 rw [if_neg k5];exact ⟨Decidable.not_not.1 k4,by dsimp only;omega,rc.2⟩
theorem zjq{pen:Pen}:∀{l:List Pl},(∀p∈l,(qu p pen).2=0)->(∀p∈l,p.pts.length<=4096)->zaS (zdo l pen)/\qh (zdo l pen)<=4096*l.length/\(zdo l pen).length<=10000*l.length
 | [],_,_=>⟨fun r hr=>(by cases hr),Nat.le_refl 0,Nat.le_refl 0⟩
 | p::r,h,hl=>by
  obtain ⟨i1,i2,i3⟩:=zjq (l:=r) (fun q hq=>h q (.tail _ hq)) (fun q hq=>hl q (.tail _ hq));obtain ⟨f1,f2,f3⟩:=zfS (h p (.head _)) (hl p (.head _));have e:zdo (p::r) pen=(qu p pen).1++zdo r pen:=rfl;rw [e,zzu,List.length_append,List.length_cons];refine ⟨fun q hq=>?_,oM,oM⟩
  rcases List.mem_append.1 hq with hq | hq
  ·exact f1 q hq
  ·exact i1 q hq
theorem zo1{P:Pl->Prop}{l:List Pl}{i:Nat}{x:Pl}(h:l[i]? =some x)(ha:∀p∈l.take i,P p)(hx:P x):∀p∈l.take (i+1),P p:=by
 intro p hp;rw [List.take_add_one,h] at hp
 rcases List.mem_append.1 hp with hp | hp
 ·exact ha p hp
 ·simp at hp;rw [hp];exact hx
theorem zub(l:List Pl)(pen:Pen)(hl:l.length<=16777216)(hp:∀q∈l,q.pts.length<=4096):zd Tryz.prog 157 [.sl plE l,.agg (ue pen)] [] (rgE (jh l pen)) []:=by
 refine zc tok mix Tryz.func157 rfl rfl rfl ?_;have es:jh l pen=if ¬qa pen then ([],13) else if (qB l pen).2≠0 then ([],(qB l pen).2) else if 4096 < qh (qB l pen).1 then ([],5) else ((qB l pen).1,0):=rfl
 refine zb.t (zd2 pen) ?_;refine Br.mk (fun k=>?_) (fun k=>?_)
 ·have k:¬qa pen:=k;exact yP (by rw [es,if_pos k])
 have k:qa pen:=Decidable.not_not.1 k;rw [qo k] at es;intro hl1;refine ⟨Nat,fun i=>⟨[(3,.loc 0 0),(6,.own 1),(16,.sl plE l),(17,i64 (l.length:Int)),(18,i64 (i:Int))],[(0,.box 46 (ue pen)),(1,.arr 87 zu 1 (zdo (l.take i) pen))],2,43,0⟩,fun i=>i<=l.length/\∀q∈l.take i,(qu q pen).2=0,fun i=>l.length - i,0,?_,?_,?_⟩
 ·exact ⟨Nat.zero_le _,fun q hq=>by cases hq⟩
 ·exact zf [(0,some 0),(1,none)]
 rintro i ⟨h1,h2⟩
 obtain ⟨f1,f2,f3⟩:=zjq h2 fun q hq=>hp q (List.mem_of_mem_take hq)
 rw [List.length_take] at f2 f3;refine Br.mk (fun g=>?_) (fun g=>?_)
 ·have g:(i:Int) < l.length:=g;refine Ob.o ?_;intro x hx;have hx:l[i]? =some x:=hx;have hpx:=hp x (List.mem_of_getElem? hx);refine zb.t (zqP x pen hpx) ?_;refine Br.mk (fun z=>?_) (fun z=>?_)
  ·have z:¬(qu x pen).2=0:=z;refine yP ?_;rw [es,zfR hx h2 z];exact if_pos z
  have z:(qu x pen).2=0:=Decidable.not_not.1 z;obtain ⟨s1,s2,s3⟩:=zfS z hpx;refine ⟨(qu x pen).1,rfl,Ob.mk ⟨(by show _*(24:Int)<=_;omega),oM,dC,fun _ _=>rfl⟩ ?_⟩;refine Ar.o ?_;exact ⟨i+1,⟨oM,zo1 hx h2 z⟩,zY [(0,some 0),(1,some 3)] ⟨rfl,congrArg (fun q=>some (Mem.arr 87 zu 1 q)) (zua hx).symm,trivial⟩,by dsimp only;omega⟩
 have g:¬(i:Int) < l.length:=g;have et:l.take i=l:=List.take_of_length_le oM;rw [et] at h2 f1;rw [zhk h2,jQ rfl] at es;have et2:zdo (l.take i) pen=zdo l pen:=by rw [et]
 refine zb.t (zjm (zdo (l.take i) pen) oM) ?_;refine Br.mk (fun k5=>?_) (fun k5=>?_)
 ·have k5:(4096:Int) < (if zaS (zdo (l.take i) pen) then (qh (zdo (l.take i) pen):Int) else 0):=k5;rw [et,if_pos f1] at k5;exact yP (by rw [es,if_pos (by dsimp only;omega)])
 have k5:¬(4096:Int) < (if zaS (zdo (l.take i) pen) then (qh (zdo (l.take i) pen):Int) else 0):=k5;rw [et,if_pos f1] at k5;rw [if_neg (by dsimp only;omega)] at es;rw [es];exact zU (qy et2) .refl
def zR(q:Pl):List Pt:=if q.cl=true/\2<=q.pts.length then q.pts++[nth q.pts 0] else q.pts
theorem zbF(p:Pl):je p=zR (zL p):=rfl
theorem zo2{q:Pl}(h:q.cl=true)(k:2<=q.pts.length):zR q=q.pts++[nth q.pts 0]:=if_pos ⟨h,k⟩
theorem zzv{q:Pl}(h:¬(q.cl=true/\2<=q.pts.length)):zR q=q.pts:=if_neg h
theorem zaT{q:Pl}{i:Nat}(h:i < q.pts.length):nth (zR q) i=nth q.pts i:=by
 unfold zR
 split
 ·show (q.pts++[nth q.pts 0]).getD i zp=q.pts.getD i zp;rw [List.getD_eq_getElem?_getD,List.getElem?_append_left h];exact (List.getD_eq_getElem?_getD ..).symm
 ·rfl
theorem zo3{q:Pl}(h:q.cl=true)(k:2<=q.pts.length):nth (zR q) q.pts.length=nth q.pts 0:=by
 rw [zo2 h k];show (q.pts++[nth q.pts 0]).getD q.pts.length zp=nth q.pts 0;rw [List.getD_eq_getElem?_getD,List.getElem?_append_right (Nat.le_refl _),Nat.sub_self];rfl
theorem zci{q:Pl}(h:q.cl=true)(k:2<=q.pts.length):(zR q).length=q.pts.length+1:=by rw [zo2 h k,List.length_append];rfl
theorem za9{q:Pl}(h:¬(q.cl=true/\2<=q.pts.length)):(zR q).length=q.pts.length:=by rw [zzv h]
theorem yQ(q:Pl):q.pts.length<=(zR q).length/\(zR q).length<=q.pts.length+1:=by
 by_cases h:q.cl=true/\2<=q.pts.length
 ·rw [zci h.1 h.2];omega
 ·rw [za9 h];omega
def zjr(q:Pl):List (Pt×Pt):=(List.range ((zR q).length - 1)).map fun i=>(nth (zR q) i,nth (zR q) (i+1))
def segE(s:Pt×Pt):List SV:=[.agg (ptE s.1),.agg (ptE s.2)]
theorem zmS{q:Pl}{i:Nat}(h:i < (zR q).length - 1):(zjr q)[i]? =some (nth (zR q) i,nth (zR q) (i+1)):=by
 unfold zjr;rw [List.getElem?_map,List.getElem?_range h];rfl
theorem zfT(q:Pl):(zjr q).length=(zR q).length - 1:=by unfold zjr;simp
theorem zqQ(q:Pl):zd Tryz.prog 251 [.agg (plE q)] [] (.dfn 288 [.dptr (plE q)]) []:=by
 refine vv 2 tok mix Tryz.func251 rfl rfl rfl ?_;exact .refl
theorem zzw(q:Pl)(hq:q.pts.length<=4096):zk7 Tryz.prog 288 [.dptr (plE q)] segE (zjr q):=by
 refine zmM (caps:=[.dptr (plE q)]) (enc:=segE) (xs:=zjr q) tok mix Tryz.func288 rfl rfl rfl rfl (fun l=>?_);intro hl1;refine ⟨Nat,fun k=>⟨[(0,.val (.func (.yield l) #[] #[])),(1,.dptr (plE q)),(3,i64 (q.pts.length:Int)),(4,i64 ((k:Int)+1))],[],0,45,0⟩,fun k=>k,fun k=>k<=q.pts.length - 1,fun k=>q.pts.length - k,0,?_,?_,rfl,rfl,?_⟩
 ·exact Nat.zero_le _
 ·exact zf []
 rintro k hk
 have ll:=yQ q;refine Br.mk (fun g=>?_) (fun g=>?_)
 ·have g:(k:Int)+1 < q.pts.length:=g;refine YDr.split 12 (Ob.mk (by decide +kernel) ?_);refine Ar.o ?_;refine Ob.o ?_;intro x hx
  have hx:=uG (show q.pts[k]? =some x by
   have hx:q.pts[((k:Int)+1 - 1).toNat]? =some x:=hx
   rwa [show ((k:Int)+1 - 1).toNat=k by omega] at hx)
  refine Ob.o ?_;intro y hy;have hy:=uG (show q.pts[k+1]? =some y from hy);refine ⟨rfl,(x,y),(by show (zjr q)[k]? =some (x,y);rw [zmS oM,zaT oM,zaT oM,hx,hy]),rfl,.cons .refl (.cons .refl .nil),(fun _ _ h=>by cases h),?_⟩;refine Br.mk ?_ ?_
  ·refine Ar.o ?_;refine ⟨k+1,oM,z9 [] ⟨rfl,rfl,rfl,congrArg (fun q=>some (i64 q)) oM,trivial⟩ trivial,rfl,rfl,by dsimp only;omega⟩
  ·exact .inl rfl
 have g:¬(k:Int)+1 < q.pts.length:=g;have ek:k=q.pts.length - 1:=oM;have no:¬(q.cl=true/\2<=q.pts.length)->k=(zjr q).length:=fun h=>by rw [zfT,za9 h];exact ek
 refine Br.mk (fun c=>?_) (fun c=>.inr (no fun h=>c h.1));have c:q.cl=true:=c;refine Br.mk (fun n1=>?_) (fun n1=>.inr (no fun h=>by have n1:¬(1:Int) < q.pts.length:=n1;omega));have n1:(1:Int) < q.pts.length:=n1;have le:=zci c (show 2<=q.pts.length by omega);refine YDr.split 11 (Ob.mk (by decide +kernel) ?_);refine Ar.o ?_;refine Ob.o ?_;intro x hx
 have hx:=uG (show q.pts[q.pts.length - 1]? =some x by
  have hx:q.pts[((q.pts.length:Int) - 1).toNat]? =some x:=hx
  rwa [show ((q.pts.length:Int) - 1).toNat=q.pts.length - 1 by omega] at hx)
 refine Ob.o ?_;intro y hy;have hy:=uG (show q.pts[0]? =some y from hy);refine ⟨rfl,(x,y),?_,rfl,.cons .refl (.cons .refl .nil),(fun _ _ h=>by cases h),?_⟩
 ·show (zjr q)[k]? =some (x,y);rw [zmS oM,ek,zaT oM,show q.pts.length - 1+1=q.pts.length by omega,zo3 c oM,hx,hy]
 ·refine Br.mk ?_ ?_
  ·refine .inr ?_;show k+1=(zjr q).length;rw [zfT];omega
  ·exact .inl rfl
structure Me where
 ln:List Pt
 ts:List Int
 lg:Int
def meE(m:Me):List SV:=[.sl ptE m.ln,.sl uR m.ts,i64 m.lg]
def tsL(c:List Pt)(n:Nat):List Int:=(List.range n).map (atS c)
def zsn(p:Pl):Me:=if ∀q∈p.pts,zn q then ⟨(zL p).pts,tsL (je p) ((je p).length - 1),qr p⟩ else ⟨[],[],0⟩
theorem zxo(c:List Pt)(n:Nat):tsL c (n+1)=tsL c n++[atS c n]:=by
 unfold tsL;rw [List.range_succ,List.map_append];rfl
theorem zhS(c:List Pt)(n:Nat):(tsL c n).length=n:=by unfold tsL;simp
theorem zgD{c:List Pt}{n i:Nat}{x:Int}(h:(tsL c n)[i]? =some x):x=atS c i:=by
 have hi:i < n:=by have:=(List.getElem?_eq_some_iff.1 h).1;rwa [zhS] at this
 unfold tsL at h;rw [List.getElem?_map,List.getElem?_range hi] at h;exact (Option.some.inj h).symm
theorem zhl(a b:Pt):0<=zmH a b/\zmH a b < 4294967296:=zkT _
theorem zbG(c:List Pt)(n:Nat):0<=atS c n/\atS c n<=4294967296*(n:Int):=by
 induction n with
 | zero=>exact ⟨Int.le_refl 0,by show (0:Int)<=_;decide⟩
 | succ n ih=>
  have:=zhl (nth c n) (nth c (n+1));unfold atS;omega
theorem zln(p:Pl)(hp:p.pts.length<=4096):zd Tryz.prog 206 [.agg (plE p)] [] (.tup [.agg (meE (zsn p)),pr (∀q∈p.pts,zn q)]) []:=by
 refine zdh 2 tok mix Tryz.func206 rfl rfl rfl ?_;intro hl1;refine ⟨Nat,fun i=>⟨[(1,.loc 0 0),(2,.loc 1 0),(11,.sl ptE p.pts),(12,i64 (p.pts.length:Int)),(13,i64 (i:Int))],[(0,.box 186 [.sl ptE p.pts,pr (p.cl=true)]),(1,.box 229 [.val (.slice none 0 0),.val (.slice none 0 0),i64 0])],2,47,0⟩,fun i=>i<=p.pts.length/\∀q∈p.pts.take i,zn q,fun i=>p.pts.length - i,0,?_,?_,?_⟩
 ·exact ⟨Nat.zero_le _,fun q hq=>by cases hq⟩
 ·exact zf [(0,some 0),(1,some 1)]
 rintro i ⟨h1,h2⟩
 refine Br.mk (fun g=>?_) (fun g=>?_)
 ·have g:(i:Int) < p.pts.length:=g;refine Ob.o ?_;intro x hx;have hx:p.pts[i]? =some x:=hx;refine zb.t (kS x) ?_;refine Br.mk (fun k=>?_) (fun k=>?_)
  ·have k:¬∀q∈p.pts,zn q:=fun h=>k (h x (List.mem_of_getElem? hx))
   have e:zsn p=⟨[],[],0⟩:=if_neg k;rw [e];exact zU (qK (.cons zC (.cons zC (.cons .refl .nil)))) (ze k)
  ·have k:=Decidable.not_not.1 k;refine Ar.o ?_;refine ⟨i+1,⟨oM,fun q hq=>?_⟩,zf [(0,some 0),(1,some 1)],by dsimp only;omega⟩;rw [List.take_add_one,hx] at hq
   rcases List.mem_append.1 hq with hq | hq
   ·exact h2 q hq
   ·simp at hq;rw [hq];exact k
 have g:¬(i:Int) < p.pts.length:=g;rw [List.take_of_length_le oM] at h2;have dl:=uH p;have ll:=yQ (zL p);refine zb.t (zfP p hp) ?_;refine zb.t (zqQ (zL p)) ?_
 refine ⟨Pt×Pt,segE,zjr (zL p),2,[(2,.loc 0 0),(7,.loc 1 0)],fun j=>[(0,.box 229 [.val (.slice none 0 0),.val (.slice none 0 0),i64 0]),(1,.box 229 [.sl ptE (zL p).pts,.own 2,i64 (atS (je p) j)]),(2,.arr 3 uR 1 (tsL (je p) j))],fun _=>3,zzw (zL p) oM,fun _=>rfl,⟨rfl,rfl,rfl,rfl⟩,
  zf [(0,some 1),(1,some 3),(2,none)],⟨Nat.zero_le _,rfl⟩,fun j=>?_,?_,?_⟩
 ·intro k m hm;simp only [List.mem_cons,List.not_mem_nil,or_false,Prod.mk.injEq] at hm
  rcases hm with ⟨_,rfl⟩ | ⟨_,rfl⟩ | ⟨_,rfl⟩
  ·rfl
  ·rfl
  ·trivial
 ·intro j y hy;have hj:j < (je p).length - 1:=by have:=(List.getElem?_eq_some_iff.1 hy).1;rwa [zfT] at this
  have hy:y=(nth (je p) j,nth (je p) (j+1)):=by rw [zmS hj] at hy;exact (Option.some.inj hy).symm
  have hat:=zbG (je p) j;have hpc:=zhl y.1 y.2;have e1:=zhS (je p) j;have ll':(je p).length<=4097:=by rw [zbF];omega
  refine ⟨Int,uR,[atS (je p) j],rfl,Ob.o0 ?_⟩;refine ⟨[atS (je p) j],rfl,Ob.mk ⟨(by show _*(8:Int)<=_;simp only [List.length_cons,List.length_nil];omega),(by simp only [List.length_cons,List.length_nil];omega),dC,fun _ _=>rfl⟩ ?_⟩;refine Dr.d ?_;refine zb.t (p_sub y.2 y.1) ?_;refine zb.t (zwc (subP y.2 y.1)) ?_;unfold zmH at hpc;refine Ar.o ?_;refine Ob.mk (by kernel_rfl) ?_
  refine zY [(0,some 0),(1,some 1),(2,some 6)] ⟨rfl,congrArg (fun q=>some (Mem.box 229 [.sl ptE (zL p).pts,.own 6,i64 q])) ?_,congrArg (fun q=>some (Mem.arr 3 uR 1 q)) (zxo _ _).symm,trivial⟩;rw [hy];rfl
 ·have e:zsn p=⟨(zL p).pts,tsL (je p) ((je p).length - 1),qr p⟩:=if_pos h2;rw [e];have e2:=zfT (zL p);rw [← zbF] at e2;refine zU (qK (.cons .refl (.cons (qy ?_) (.cons (zj ?_) .nil)))) (zP h2)
  ·rw [e2]
  ·rw [e2];rfl
end Go.Gs
