/- The area of a ring, both texts. -/
import Derived.Test.YtbgnkgoiocjbnaaGreatMA
import Derived.Test.YtbgnkgoiocjbnaaGreatMAV
set_option maxRecDepth 100000
set_option maxHeartbeats 8000000
set_option linter.all false
namespace Go.Gs
open Go.Proofs
theorem zuX(n:Int)(p q:Pt)(hn: -4611686018427387904<=n/\n<=4611686018427387904):
  zd Tryz.prog 175 [.agg (ptE p),.agg (ptE q),.loc 0 0] [(0,.box 3 [i64 n])] (.tup []) [(0,.box 3 [i64 (n+za2 p q)])]:=by
 have hc:=zeu (uw p) (uw q);refine zck tok mix Tryz.func175 rfl rfl rfl rfl rfl ?_;refine Dr.k ?_;refine zb.t (zs8 p q) ?_;refine Ar.fit (by unfold za2;omega) ?_;exact ⟨rfl,.refl⟩
theorem ztc{i n:Nat}(h:i < n):((i:Int)+1) % (n:Int)=(((i+1) % n:Nat):Int):=by rw [Int.natCast_emod,Int.natCast_add];rfl
theorem zpl{r:List Pt}{i:Nat}{x y:Pt}(hx:r[i]? =some x)(hy:r[(((i:Int)+1) % (r.length:Int)).toNat]? =some y)(h:i < r.length):uB r (i+1)=uB r i+za2 x y:=by
 rw [ztc h,Int.toNat_natCast] at hy;rw [zc4,List.getD_eq_getElem?_getD,List.getD_eq_getElem?_getD,hx,hy];rfl
theorem zuY(r:List Pt)(hr:r.length<=4096):
  zd Tryz.prog 174 [.sl ptE r,.fn 175 [.loc 0 0]] [(0,.box 3 [i64 0])] (.tup []) [(0,.box 3 [i64 (uB r r.length)])]:=by
 refine zck tok mix Tryz.func174 rfl rfl rfl rfl rfl ?_;intro hl1;refine ⟨Nat,fun i=>⟨[(8,i64 (i:Int)),(7,i64 (r.length:Int)),(6,.sl ptE r),(0,.sl ptE r),(1,.fn 175 [.loc 0 0])],[(0,.box 3 [i64 (uB r i)])],1,25,1⟩,fun i=>i<=r.length,fun i=>r.length - i,0,?_,?_,?_⟩
 ·exact Nat.zero_le _
 ·exact zh [(0,some 0)]
 rintro i h1
 refine Br.mk (fun g=>?_) (fun g=>?_)
 ·have g:(i:Int) < r.length:=g;refine Ob.o ?_;intro x hx;refine Dr.d ?_;refine Ar.o ?_;intro hl2;refine Dv.pos ⟨oM,oM⟩ ?_;have q1:=Int.emod_nonneg ((i:Int)+1) (b:=(r.length:Int)) oM;have q2:=Int.emod_lt_of_pos ((i:Int)+1) (b:=(r.length:Int)) oM;refine Ob.mk ⟨q1,q2⟩ ?_;intro y hy;have hx:r[i]? =some x:=hx;have hy:r[(((i:Int)+1) % (r.length:Int)).toNat]? =some y:=hy;have ha:=zk3 r i;refine zb.hand 0 _ _ _ rfl (zuX (uB r i) x y oM) rfl rfl rfl rfl ?_;refine Ob.mk (by kernel_rfl) ?_;refine Ar.o ?_
  have e:uB r (i+1)=uB r i+za2 x y:=zpl hx hy oM;refine ⟨i+1,oM,?_,by dsimp only;omega⟩;dsimp only;rw [e];exact zh [(0,some 0)]
 ·have e:i=r.length:=by have g:¬(i:Int) < r.length:=g;omega
  subst e;exact ⟨rfl,.refl⟩
theorem zuZ(r:List Pt)(hr:(r.length:Int)<=9223372036854771711):zd Tryz.prog 120 [.sl ptE r] [] (i64 (zcQ r)) []:=by
 refine zc tok mix Tryz.func120 rfl rfl rfl ?_;refine ⟨List Pt,zw,[r],rfl,Ob.o0 ?_⟩;refine zb.see 0 _ (zgF [r] (fun q hq=>by rw [List.mem_singleton] at hq;exact hq ▸ hr)) rfl rfl rfl ?_;refine Br.mk (fun a1=>?_) (fun a1=>?_)
 ·refine zu ?_;unfold zcQ;rw [if_neg (fun h=>a1 ((zie r).2 h))]
 ·have a1:=(zie r).1 (Decidable.not_not.1 a1);refine zb.give [1] 0 [.sl ptE r,.fn 175 [.loc 0 0]] [(0,.box 3 [i64 0])] [(0,.box 3 [i64 (uB r r.length)])] (.tup []) (zuY r (by have:=a1.1;omega)) LEs.refl rfl rfl rfl ⟨⟨_,rfl,rfl,rfl⟩,trivial⟩ rfl ⟨⟨rfl,rfl⟩,trivial⟩ ?_;refine zu ?_;unfold zcQ;rw [if_pos a1]
theorem zxJ(r:List Pt)(i:Nat)(y:Pt)(h:i < r.length/\r.length<=4096)(hy:r[(((i:Int)+1) % (r.length:Int)).toNat]? =some y):
  zd Tryz.prog 184 [.sl ptE r,i64 (i:Int)] [] (.agg (ptE y)) []:=by
 refine zc tok mix Tryz.func184 rfl rfl rfl ?_;refine Ar.o ?_;intro hl1;refine Dv.pos ⟨oM,oM⟩ ?_;have q1:=Int.emod_nonneg ((i:Int)+1) (b:=(r.length:Int)) oM;have q2:=Int.emod_lt_of_pos ((i:Int)+1) (b:=(r.length:Int)) oM;refine Ob.mk ⟨q1,q2⟩ ?_;intro z hz;have e:z=y:=Option.some.inj ((show r[(((i:Int)+1) % (r.length:Int)).toNat]? =some z from hz).symm.trans hy);rw [e];exact .refl
theorem zxK(r:List Pt):zd Tryz.prog 123 [.sl ptE r] [] (i64 (zcQ r)) []:=by
 refine zc tok mix Tryz.func123 rfl rfl rfl ?_;refine ⟨List Pt,zw,[r],rfl,Ob.o0 ?_⟩;refine zb.see 0 _ (zle [r]) rfl rfl rfl ?_;refine Br.mk (fun a1=>?_) (fun a1=>?_)
 ·refine zu ?_;unfold zcQ;rw [if_neg (fun h=>a1 ((zie r).2 h))]
 have a1:=(zie r).1 (Decidable.not_not.1 a1);have hr:r.length<=4096:=by have:=a1.1;omega
 refine ⟨Nat,fun i=>⟨[(4,i64 (i:Int)),(3,i64 (uB r i)),(0,.sl ptE r)],[],1,26,0⟩,fun i=>i<=r.length,fun i=>r.length - i,0,?_,?_,?_⟩
 ·exact Nat.zero_le _
 ·exact zh []
 rintro i h1
 intro hl1;refine Br.mk (fun g=>?_) (fun g=>?_)
 ·have g:(i:Int) < r.length:=g;refine Dr.k ?_;refine Ob.o ?_;intro x hx;have hx:r[i]? =some x:=hx;have hj:(i+1) % r.length < r.length:=Nat.mod_lt _ oM;obtain ⟨y,hy0⟩:∃y,r[(i+1) % r.length]? =some y:=⟨_,List.getElem?_eq_getElem hj⟩;have hy:r[(((i:Int)+1) % (r.length:Int)).toNat]? =some y:=by rw [ztc oM,Int.toNat_natCast];exact hy0
  refine zb.t (zxJ r i y ⟨oM,hr⟩ hy) ?_;refine zb.t (zxq x y) ?_;have ha:=zk3 r i;have hc:=zeu (uw x) (uw y);refine Ar.fit (by unfold za2;omega) ?_;refine Ar.o ?_;have e:uB r (i+1)=uB r i+za2 x y:=zpl hx hy oM;refine ⟨i+1,oM,?_,by dsimp only;omega⟩;dsimp only;rw [e];exact zh []
 ·have e:i=r.length:=by have g:¬(i:Int) < r.length:=g;omega
  subst e;refine zu ?_;unfold zcQ;rw [if_pos a1]
theorem zrc(r:List Pt)(hr:r.length<=4096):zd Tryz.prog 82 [.sl ptE r] [] (.sl ptE r) []:=by
 refine zc tok mix Tryz.func82 rfl rfl rfl ?_;refine ⟨Pt,ptE,[],rfl,Ob.o2 ?_⟩;refine ⟨Nat,fun i=>⟨[(4,i64 (i:Int)),(3,.own 0),(0,.sl ptE r)],[(0,.arr 52 ptE 2 (r.take i))],1,20,0⟩,fun i=>i<=r.length,fun i=>r.length - i,0,?_,?_,?_⟩
 ·exact Nat.zero_le _
 ·exact zh [(0,some 0)]
 rintro i h1
 intro hl1;refine Br.mk (fun g=>?_) (fun g=>?_)
 ·have g:(i:Int) < r.length:=g;refine Ob.o ?_;intro x hx;have hx:r[i]? =some x:=hx;refine ⟨Pt,ptE,[x],rfl,Ob.o0 ?_⟩;have hlt:(r.take i).length=i:=by rw [List.length_take];omega
  refine ⟨[x],rfl,Ob.mk ⟨(by show _*(16:Int)<=_;simp only [hlt,List.length_cons,List.length_nil];omega),(by simp only [hlt,List.length_cons,List.length_nil];omega),dC,fun _ _=>rfl⟩ ?_⟩;refine Ar.o ?_;exact ⟨i+1,oM,zM [(0,some 2)] ⟨congrArg (fun q=>some (Mem.arr 52 ptE 2 q)) (by rw [List.take_add_one,hx];rfl),trivial⟩,by dsimp only;omega⟩
 ·exact qb (by rw [List.take_of_length_le (by have g:¬(i:Int) < r.length:=g;omega)])
theorem zpm:zcQ []=0:=by decide +kernel
theorem zpn{r:List Pt}(h:zcQ r≠0):r.length<=4096:=by
 unfold zcQ at h
 split at h
 ·rename_i k;have:=k.1;omega
 ·exact absurd rfl h
theorem zvZ(r:List Pt):zd Tryz.prog 68 [.sl ptE r] [] (.sl ptE (kj r)) []:=by
 refine zc tok mix Tryz.func68 rfl rfl rfl ?_;refine zb.t (zxK r) ?_;refine Br.mk (fun a1=>?_) (fun a1=>?_)
 ·refine zb.t (zrc r (zpn oM)) ?_;exact qb (show r=kj r by unfold kj;rw [if_neg oM,if_neg oM])
 refine ⟨Pt,ptE,[],rfl,Ob.o2 ?_⟩;refine Br.mk (fun a2=>?_) (fun a2=>?_)
 ·have hr:=zpn (r:=r) oM;have e:kj r=zn2 r:=by unfold kj;rw [if_neg oM,if_pos a2]
  cases r with
  | nil=>rw [zpm] at a2;omega
  | cons p q=>
   have hq:q.length+1<=4096:=hr;have hL:((p::q).length:Int)=q.length+1:=by simp only [List.length_cons];omega
   refine Ob.o4 ?_;intro x hx;have hx:some p=some x:=hx
   cases hx
   refine ⟨Pt,ptE,[p],rfl,Ob.o0 ?_⟩;refine ⟨[p],rfl,Ob.o3 ?_⟩;intro hl1;refine Ar.o ?_;refine ⟨Nat,fun i=>⟨[(5,i64 (i:Int)),(4,.own 0),(0,.sl ptE (p::q))],[(0,.arr 52 ptE 2 (p::(q.drop i).reverse))],1,36,0⟩,fun i=>i<=q.length,fun i=>i,q.length,?_,?_,?_⟩
   ·exact Nat.le_refl _
   ·exact z0 [(0,some 2)] ⟨congrArg (fun n=>some (i64 n)) oM,rfl,rfl,trivial⟩ ⟨congrArg (fun r=>some (Mem.arr 52 ptE 2 r)) (by rw [List.drop_length];rfl),trivial⟩
   rintro i h1
   refine Br.mk (fun g=>?_) (fun g=>?_)
   ·have g:(0:Int) < i:=g;obtain ⟨j,rfl⟩:∃j,i=j+1:=⟨i - 1,oM⟩;refine Ob.o4 ?_;intro y hy;have hy:q[j]? =some y:=hy;refine ⟨Pt,ptE,[y],rfl,Ob.o0 ?_⟩;refine ⟨[y],rfl,Ob.mk ⟨(by show _*(16:Int)<=_;simp only [List.length_cons,List.length_nil,List.length_reverse,List.length_drop];omega),(by simp only [List.length_cons,List.length_nil,List.length_reverse,List.length_drop];omega),dC,fun _ _=>rfl⟩ ?_⟩;refine Ar.o ?_
    refine ⟨j,oM,z0 [(0,some 2)] ⟨congrArg (fun n=>some (i64 n)) (show ((j+1:Nat):Int) - 1=(j:Int) by omega),rfl,rfl,trivial⟩ ⟨congrArg (fun r=>some (Mem.arr 52 ptE 2 r)) ?_,trivial⟩,by dsimp only;omega⟩;rw [zfu hy,List.reverse_cons];rfl
   ·have g:¬(0:Int) < i:=g;have h0:i=0:=oM;subst h0;refine qb ?_;rw [e];rfl
 ·refine qb ?_;unfold kj;rw [if_pos oM]
def zlf(q:List Pt)(i k:Nat):Pt:=if k < i∨q.length<=k+i then q.getD (q.length - 1 - k) zp else q.getD k zp
def zc7(q:List Pt)(i:Nat):List Pt:=(List.range q.length).map (zlf q i)
theorem zlg(q:List Pt)(i:Nat):(zc7 q i).length=q.length:=by unfold zc7;simp
theorem zbV(q:List Pt)(i k:Nat):(zc7 q i)[k]? =if k < q.length then some (zlf q i k) else none:=by
 unfold zc7;rw [List.getElem?_map]
 by_cases h:k < q.length
 ·rw [if_pos h,List.getElem?_range h];rfl
 ·rw [if_neg h,List.getElem?_eq_none (by simp;omega)];rfl
theorem zlh{q:List Pt}{k:Nat}(h:k < q.length):q[k]? =some (q.getD k zp):=by
 rw [List.getD_eq_getElem?_getD,List.getElem?_eq_getElem h];rfl
theorem zpo(q:List Pt):zc7 q 0=q:=by
 refine List.ext_getElem? fun k=>?_
 rw [zbV]
 by_cases h:k < q.length
 ·rw [if_pos h,zlh h];unfold zlf;rw [if_neg oM]
 ·rw [if_neg h,List.getElem?_eq_none oM]
theorem zrd{q:List Pt}{i:Nat}(h:q.length<=2*i+1):zc7 q i=q.reverse:=by
 refine List.ext_getElem? fun k=>?_
 rw [zbV]
 by_cases hk:k < q.length
 ·rw [if_pos hk,List.getElem?_reverse hk,zlh oM];unfold zlf
  by_cases c:k < i∨q.length<=k+i
  ·rw [if_pos c]
  ·rw [if_neg c,show q.length - 1 - k=k by omega]
 ·rw [if_neg hk,List.getElem?_eq_none (by simp;omega)]
theorem zpp{q:List Pt}{i:Nat}(h:2*i+1 < q.length):
  ((zc7 q i).set i (q.getD (q.length - 1 - i) zp)).set (q.length - 1 - i) (q.getD i zp)=zc7 q (i+1):=by
 refine List.ext_getElem? fun k=>?_
 rw [List.getElem?_set,List.getElem?_set,List.length_set,zlg,zbV,zbV]
 by_cases hk:k < q.length
 ·rw [if_pos hk,if_pos hk]
  by_cases c1:q.length - 1 - i=k
  ·rw [if_pos c1,if_pos oM];unfold zlf;rw [if_pos oM,show q.length - 1 - k=i by omega]
  ·rw [if_neg c1]
   by_cases c2:i=k
   ·rw [if_pos c2,if_pos oM];unfold zlf;rw [if_pos oM,c2]
   ·rw [if_neg c2];unfold zlf
    by_cases c3:k < i∨q.length<=k+i
    ·rw [if_pos c3,if_pos oM]
    ·rw [if_neg c3,if_neg oM]
 ·rw [if_neg oM,if_neg oM,if_neg hk,if_neg hk]
theorem zn9{q:List Pt}{i k:Nat}(hk:k < q.length)(h:i<=k/\k+i < q.length):(zc7 q i)[k]? =some (q.getD k zp):=by
 rw [zbV,if_pos hk];unfold zlf;rw [if_neg oM]
theorem p_rev(p:Pt)(q:List Pt)(hq:q.length<=4096):zd Tryz.prog 121 [.win 0 2 1 (q.length:Int)] [(0,.arr 52 ptE 2 (p::q))] (.tup []) [(0,.arr 52 ptE 2 (p::q.reverse))]:=by
 refine zck tok mix Tryz.func121 rfl rfl rfl (fun _ _=>rfl) rfl ?_;refine Ob.o ?_;refine Ar.o ?_;refine ⟨Nat,fun i=>⟨[(3,i64 ((q.length:Int) - 1 - i)),(2,i64 (i:Int)),(0,.win 0 2 1 (q.length:Int))],[(0,.arr 52 ptE 2 (p::zc7 q i))],1,28,1⟩,fun i=>2*i<=q.length,fun i=>q.length - i,0,?_,?_,?_⟩
 ·exact Nat.zero_le _
 ·exact z0 [(0,some 0)] ⟨congrArg (fun n=>some (i64 n)) oM,rfl,rfl,trivial⟩ ⟨congrArg (fun r=>some (Mem.arr 52 ptE 2 (p::r))) (zpo q).symm,trivial⟩
 rintro i h1
 refine Br.mk (fun g=>?_) (fun g=>?_)
 ·have g:(i:Int) < (q.length:Int) - 1 - i:=g;have hlen:(p::zc7 q i).length=q.length+1:=by rw [List.length_cons,zlg]
  refine Dr.k ?_;refine Ob.o5 ?_;refine Ob.mk (by rw [hlen];omega) ?_;intro x hx
  have hx:x=q.getD (q.length - 1 - i) zp:=by
   have e:(p::zc7 q i)[(1+((q.length:Int) - 1 - i)).toNat]? =some x:=hx;rw [show (1+((q.length:Int) - 1 - i)).toNat=(q.length - 1 - i)+1 by omega,List.getElem?_cons_succ,zn9 oM oM] at e;exact (Option.some.inj e).symm
  refine Ob.o5 ?_;refine Ob.mk (by rw [hlen];omega) ?_;intro y hy
  have hy:y=q.getD i zp:=by
   have e:(p::zc7 q i)[(1+(i:Int)).toNat]? =some y:=hy;rw [show (1+(i:Int)).toNat=i+1 by omega,List.getElem?_cons_succ,zn9 oM oM] at e;exact (Option.some.inj e).symm
  refine Ob.o5 ?_;refine Ob.mk (by rw [hlen];omega) ?_;intro x' _;refine ⟨x,rfl,?_⟩;refine Ob.o5 ?_;refine Ob.mk (by rw [List.length_set,hlen];omega) ?_;intro y' _;refine ⟨y,rfl,?_⟩;(iterate 2 refine Ar.o ?_);refine ⟨i+1,oM,z0 [(0,some 0)] ⟨congrArg (fun n=>some (i64 n)) oM,rfl,rfl,trivial⟩ ⟨congrArg (fun r=>some (Mem.arr 52 ptE 2 r)) ?_,trivial⟩,by dsimp only;omega⟩;show ((p::zc7 q i).set (1+(i:Int)).toNat x).set (1+((q.length:Int) - 1 - i)).toNat y=p::zc7 q (i+1)
  rw [show (1+(i:Int)).toNat=i+1 by omega,show (1+((q.length:Int) - 1 - i)).toNat=(q.length - 1 - i)+1 by omega,List.set_cons_succ,List.set_cons_succ,hx,hy,zpp oM]
 ·have g:¬(i:Int) < (q.length:Int) - 1 - i:=g;refine ⟨congrArg (fun r=>some (Mem.arr 52 ptE 2 (p::r))) (zrd oM),.refl⟩
theorem zjD(q:List Pt)(hq:q.length<=4096):zd Tryz.prog 77 [.sl ptE q] [] (.own 0) [(0,.arr 52 ptE 2 q)]:=by
 refine jD tok mix Tryz.func77 rfl rfl rfl ?_
 by_cases h0:q=[]
 ·refine zoU.any (Br.mk ?_ ?_)
  ·exact ⟨none,.nil rfl,h0⟩
  ·refine ⟨Pt,ptE,[],rfl,Ob.o2 ?_⟩;refine ⟨q,rfl,Ob.o17 ?_⟩;exact ⟨some 1,.own _ rfl,rfl,fun _ _=>rfl⟩
 ·refine zoU.some (fun h=>h0 (List.eq_nil_of_length_eq_zero h)) ?_;refine ⟨Pt,ptE,[],rfl,Ob.o2 ?_⟩;refine ⟨q,rfl,Ob.o17 ?_⟩;exact ⟨some 1,.own _ rfl,rfl,fun _ _=>rfl⟩
theorem zpq(p:Pt):zcQ [p]=0:=by
 unfold zcQ
 split
 ·show uB [p] 1=0;have e0:uB [p] 0=0:=by unfold uB;rfl
  have e1:[p].getD 0 zp=p:=rfl;have e2:[p].getD ((0+1) % [p].length) zp=p:=by show [p].getD ((0+1) % 1) zp=p;rw [Nat.mod_one];rfl
  rw [zc4,e0,e1,e2];unfold za2;unfold wdg;rw [Int.mul_comm (jW p).x];omega
 ·rfl
theorem uD(r:List Pt)(hr:(r.length:Int)<=9223372036854771711):zd Tryz.prog 65 [.sl ptE r] [] (.sl ptE (kj r)) []:=by
 refine zc tok mix Tryz.func65 rfl rfl rfl ?_;refine zb.t (zuZ r hr) ?_;refine Br.mk (fun a1=>?_) (fun a1=>?_)
 ·have e:kj r=[]:=by unfold kj;rw [if_pos a1]
  rw [e];exact ku
 have hq:=zpn a1;refine zb.fresh _ _ (zjD r hq) rfl (fun _ _=>rfl) (.inr (fun _ _=>rfl)) ?_;refine Br.mk (fun a2=>?_) (fun a2=>?_)
 ·have e:kj r=zn2 r:=by unfold kj;rw [if_neg a1,if_pos a2]
  cases r with
  | nil=>exact absurd zpm a1
  | cons p q=>
   have h0:q≠[]:=fun h=>a1 (by rw [h];exact zpq p)
   have h2:0 < q.length:=Nat.pos_of_ne_zero fun h=>h0 (List.eq_nil_of_length_eq_zero h)
   have hL:((p::q).length:Int)=(q.length:Int)+1:=by simp only [List.length_cons];omega
   have hq:q.length<=4096:=by simp only [List.length_cons] at hq;omega
   refine Sl.win (Ob.mk ⟨oM,oM,oM,oM⟩ ?_)
   have ct:zd Tryz.prog 121 [.win 0 2 1 (((p::q).length:Int) - 1)] [(0,.arr 52 ptE 2 (p::q))] (.tup []) [(0,.arr 52 ptE 2 (p::q.reverse))]:=by
    rw [show ((p::q).length:Int) - 1=(q.length:Int) by omega];exact p_rev p q hq
   refine zb.hand 0 _ _ _ rfl ct (fun _ _=>rfl) (fun _ _=>rfl) rfl rfl ?_;rw [e];exact qb rfl
 ·refine qb (show r=kj r by unfold kj;rw [if_neg a1,if_neg a2])
def P45(p:Pt):Prop:=(-35184372088832<=p.x/\p.x<=35184372088832)/\(-35184372088832<=p.y/\p.y<=35184372088832)
theorem P45.s{p:Pt}(h:P45 p):S50 p.x/\S50 p.y:=by unfold P45 at h;omega
theorem zo.p45{p:Pt}(h:zo p):P45 p:=by unfold zo at h;unfold P45;omega
theorem yA(v:Pt)(w:Int):P45 (kM v w):=by have:=zew v w;unfold P45;omega
theorem zli(v:Pt)(w:Int):P45 ⟨(kM v w).y,-(kM v w).x⟩:=by have:=zew v w;unfold P45;dsimp only;omega
theorem zu0{p q:Pt}(h:P45 p)(k:P45 q):S50 (zA p q).x/\S50 (zA p q).y:=by
 unfold P45 at h k;show S50 (p.x - q.x)/\S50 (p.y - q.y);omega
theorem zu1{p q:Pt}(h:P45 p)(k:P45 q):S50 (zH p q).x/\S50 (zH p q).y:=by
 unfold P45 at h k;show S50 (p.x+q.x)/\S50 (p.y+q.y);omega
theorem zmS{w:Int}(hw:zX w):(-16384<=zQ w 2/\zQ w 2<=16384)/\yH (zQ w 2)=zQ w 2:=by
 unfold zX at hw;have:=yI (a:=w) (b:=2) (M:=16384) oM;exact ⟨oM,zav oM⟩
theorem zlj(a b:Pt)(w:Int):zd Tryz.prog 235 [.agg (ptE a),.agg (ptE b),i64 w] []
  (.tup [.agg (ptE (if zX w/\zo a/\zo b then kM (zA b a) w else zp)),pr (zX w/\zo a/\zo b)]) []:=by
 refine zc tok mix Tryz.func235 rfl rfl rfl ?_
 have bad:¬(zX w/\zo a/\zo b)->LE (.tup [.agg (ptE zp),bl false]) (.tup [.agg (ptE (if zX w/\zo a/\zo b then kM (zA b a) w else zp)),pr (zX w/\zo a/\zo b)]):=fun h=>by
  rw [if_neg h];exact zS .refl (ze h)
 refine zb.t (uh w) ?_;refine Br.mk (fun a1=>bad (fun h=>a1 h.1)) (fun a1=>?_);refine zb.t (qc a) ?_;refine Br.mk (fun a2=>bad (fun h=>a2 h.2.1)) (fun a2=>?_);refine zb.t (qc b) ?_;refine Br.mk (fun a3=>bad (fun h=>a3 h.2.2)) (fun a3=>?_);have h:zX w/\zo a/\zo b:=⟨Decidable.not_not.1 a1,Decidable.not_not.1 a2,Decidable.not_not.1 a3⟩;refine zb.t (zgC b a h.2.2.p45.s h.2.1.p45.s) ?_;refine zb.t (zgD (zA b a) w) ?_;rw [if_pos h];exact zS .refl (kC h)
theorem zu2(a b:Pt)(w:Int):zd Tryz.prog 180 [.agg (ptE a),.agg (ptE b),i64 w] [] (.sl ptE (yl a b w)) []:=by
 refine zc tok mix Tryz.func180 rfl rfl rfl ?_
 have bad:¬(zX w/\zo a/\zo b)->LE (.val (.slice none 0 0)) (.sl ptE (yl a b w)):=fun h=>by
  unfold yl;rw [if_pos h];exact ku
 refine zb.t (zlj a b w) ?_;refine Br.mk (fun h=>bad h) (fun h=>?_);have h:=Decidable.not_not.1 h;rw [if_pos h];refine Dr.d ?_;refine zb.t (zgC a (kM (zA b a) w) h.2.1.p45.s (yA (zA b a) w).s) ?_;refine zb.t (zgC b (kM (zA b a) w) h.2.2.p45.s (yA (zA b a) w).s) ?_;refine zb.t (jk b (kM (zA b a) w) h.2.2.p45.s (yA (zA b a) w).s) ?_;refine zb.t (jk a (kM (zA b a) w) h.2.1.p45.s (yA (zA b a) w).s) ?_;refine ⟨Pt,ptE,[zA a (kM (zA b a) w),zA b (kM (zA b a) w),zH b (kM (zA b a) w),zH a (kM (zA b a) w)],rfl,Ob.o0 ?_⟩
 refine zb.see 3 _ (uD [zA a (kM (zA b a) w),zA b (kM (zA b a) w),zH b (kM (zA b a) w),zH a (kM (zA b a) w)] (by show ((4:Nat):Int)<=_;decide)) rfl rfl rfl ?_;refine Ob.mk (by kernel_rfl) ?_;unfold yl;rw [if_neg (fun k=>k h)];exact .refl
theorem p_cap(a b:Pt)(w:Int):zd Tryz.prog 242 [.agg (ptE a),.agg (ptE b),i64 w] [] (.sl ptE (zjw a b w)) []:=by
 refine zc tok mix Tryz.func242 rfl rfl rfl ?_
 have bad:¬(zX w/\zo a/\zo b)->LE (.val (.slice none 0 0)) (.sl ptE (zjw a b w)):=fun h=>by
  unfold zjw;rw [if_pos h];exact ku
 refine zb.t (zlj a b w) ?_;refine Br.mk (fun h=>bad h) (fun h=>?_);have h:=Decidable.not_not.1 h;rw [if_pos h];have hn:=zew (zA b a) w;refine Ar.o ?_;refine Dr.d ?_;refine zb.t (zgC b (kM (zA b a) w) h.2.2.p45.s (yA (zA b a) w).s) ?_;refine zb.t (zgC b (kM (zA b a) w) h.2.2.p45.s (yA (zA b a) w).s) ?_;refine zb.t (jk (zA b (kM (zA b a) w)) ⟨(kM (zA b a) w).y,-(kM (zA b a) w).x⟩ (zu0 h.2.2.p45 (yA (zA b a) w)) (zli (zA b a) w).s) ?_;refine zb.t (jk b (kM (zA b a) w) h.2.2.p45.s (yA (zA b a) w).s) ?_
 refine zb.t (jk (zH b (kM (zA b a) w)) ⟨(kM (zA b a) w).y,-(kM (zA b a) w).x⟩ (zu1 h.2.2.p45 (yA (zA b a) w)) (zli (zA b a) w).s) ?_;refine zb.t (jk b (kM (zA b a) w) h.2.2.p45.s (yA (zA b a) w).s) ?_;refine ⟨Pt,ptE,[zA b (kM (zA b a) w),zH (zA b (kM (zA b a) w)) ⟨(kM (zA b a) w).y,-(kM (zA b a) w).x⟩,zH (zH b (kM (zA b a) w)) ⟨(kM (zA b a) w).y,-(kM (zA b a) w).x⟩,zH b (kM (zA b a) w)],rfl,Ob.o0 ?_⟩
 refine zb.see 4 _ (uD [zA b (kM (zA b a) w),zH (zA b (kM (zA b a) w)) ⟨(kM (zA b a) w).y,-(kM (zA b a) w).x⟩,zH (zH b (kM (zA b a) w)) ⟨(kM (zA b a) w).y,-(kM (zA b a) w).x⟩,zH b (kM (zA b a) w)] (by show ((4:Nat):Int)<=_;decide)) rfl rfl rfl ?_;refine Ob.mk (by kernel_rfl) ?_;unfold zjw;rw [if_neg (fun k=>k h)];exact .refl
theorem zu3(p:Pt)(w:Int):zd Tryz.prog 233 [.agg (ptE p),i64 w] [] (.sl ptE (zdR p w)) []:=by
 refine zc tok mix Tryz.func233 rfl rfl rfl ?_
 have bad:¬(zX w/\zo p)->LE (.val (.slice none 0 0)) (.sl ptE (zdR p w)):=fun h=>by
  unfold zdR;rw [if_pos h];exact ku
 refine zb.t (uh w) ?_;refine Br.mk (fun a1=>bad (fun h=>a1 h.1)) (fun a1=>?_);refine zb.t (qc p) ?_;refine Br.mk (fun a2=>bad (fun h=>a2 h.2)) (fun a2=>?_);have h:zX w/\zo p:=⟨Decidable.not_not.1 a1,Decidable.not_not.1 a2⟩;have hh:=zmS h.1;have hw:=h.1;have hp:=h.2;unfold zX at hw;unfold zo at hp;refine zb.t (zC w 2 ⟨oM,oM⟩ ⟨oM,oM⟩) ?_;rw [hh.2];(iterate 8 refine Ar.o ?_)
 refine ⟨Pt,ptE,[⟨p.x - zQ w 2,p.y - zQ w 2⟩,⟨p.x+zQ w 2,p.y - zQ w 2⟩,⟨p.x+zQ w 2,p.y+zQ w 2⟩,⟨p.x - zQ w 2,p.y+zQ w 2⟩],rfl,Ob.o0 ?_⟩;refine zb.see 1 _ (uD [⟨p.x - zQ w 2,p.y - zQ w 2⟩,⟨p.x+zQ w 2,p.y - zQ w 2⟩,⟨p.x+zQ w 2,p.y+zQ w 2⟩,⟨p.x - zQ w 2,p.y+zQ w 2⟩] (by show ((4:Nat):Int)<=_;decide)) rfl rfl rfl ?_;unfold zdR;rw [if_neg (fun k=>k h)];exact .refl
theorem zxb(a b:Pt)(w:Int):zd Tryz.prog 244 [.agg (ptE a),.agg (ptE b),i64 w] [] (.sl ptE (yl a b w)) []:=by
 refine zc tok mix Tryz.func244 rfl rfl rfl ?_;refine zb.t (zwK a b w) ?_;refine Br.mk (fun h=>?_) (fun h=>?_)
 ·refine ⟨Pt,ptE,[],rfl,Ob.o2 ?_⟩;exact qb (show []=yl a b w by unfold yl;rw [if_pos h])
 have h:zX w/\zo a/\zo b:=Decidable.not_not.1 h;refine zb.t (zwe b a h.2.2.p45.s h.2.1.p45.s) ?_;refine zb.t (zv9 (zA b a) w) ?_;refine Dr.d ?_;refine zb.t (zwe a (kM (zA b a) w) h.2.1.p45.s (yA (zA b a) w).s) ?_;refine zb.t (zwe b (kM (zA b a) w) h.2.2.p45.s (yA (zA b a) w).s) ?_;refine zb.t (zv6 b (kM (zA b a) w) h.2.2.p45.s (yA (zA b a) w).s) ?_;refine zb.t (zv6 a (kM (zA b a) w) h.2.1.p45.s (yA (zA b a) w).s) ?_;refine ⟨Pt,ptE,[zA a (kM (zA b a) w),zA b (kM (zA b a) w),zH b (kM (zA b a) w),zH a (kM (zA b a) w)],rfl,Ob.o0 ?_⟩
 refine zb.see 3 _ (zvZ [zA a (kM (zA b a) w),zA b (kM (zA b a) w),zH b (kM (zA b a) w),zH a (kM (zA b a) w)]) rfl rfl rfl ?_;refine Ob.mk (by kernel_rfl) ?_;unfold yl;rw [if_neg (fun k=>k h)];exact .refl
theorem r_cap(a b:Pt)(w:Int):zd Tryz.prog 248 [.agg (ptE a),.agg (ptE b),i64 w] [] (.sl ptE (zjw a b w)) []:=by
 refine zc tok mix Tryz.func248 rfl rfl rfl ?_;refine zb.t (zwK a b w) ?_;refine Br.mk (fun h=>?_) (fun h=>?_)
 ·refine ⟨Pt,ptE,[],rfl,Ob.o2 ?_⟩;exact qb (show []=zjw a b w by unfold zjw;rw [if_pos h])
 have h:zX w/\zo a/\zo b:=Decidable.not_not.1 h;refine zb.t (zwe b a h.2.2.p45.s h.2.1.p45.s) ?_;refine zb.t (zv9 (zA b a) w) ?_;have hn:=zew (zA b a) w;refine Ar.o ?_;refine Dr.d ?_;refine zb.t (zwe b (kM (zA b a) w) h.2.2.p45.s (yA (zA b a) w).s) ?_;refine zb.t (zwe b (kM (zA b a) w) h.2.2.p45.s (yA (zA b a) w).s) ?_;refine zb.t (zv6 (zA b (kM (zA b a) w)) ⟨(kM (zA b a) w).y,-(kM (zA b a) w).x⟩ (zu0 h.2.2.p45 (yA (zA b a) w)) (zli (zA b a) w).s) ?_;refine zb.t (zv6 b (kM (zA b a) w) h.2.2.p45.s (yA (zA b a) w).s) ?_
 refine zb.t (zv6 (zH b (kM (zA b a) w)) ⟨(kM (zA b a) w).y,-(kM (zA b a) w).x⟩ (zu1 h.2.2.p45 (yA (zA b a) w)) (zli (zA b a) w).s) ?_;refine zb.t (zv6 b (kM (zA b a) w) h.2.2.p45.s (yA (zA b a) w).s) ?_;refine ⟨Pt,ptE,[zA b (kM (zA b a) w),zH (zA b (kM (zA b a) w)) ⟨(kM (zA b a) w).y,-(kM (zA b a) w).x⟩,zH (zH b (kM (zA b a) w)) ⟨(kM (zA b a) w).y,-(kM (zA b a) w).x⟩,zH b (kM (zA b a) w)],rfl,Ob.o0 ?_⟩
 refine zb.see 4 _ (zvZ [zA b (kM (zA b a) w),zH (zA b (kM (zA b a) w)) ⟨(kM (zA b a) w).y,-(kM (zA b a) w).x⟩,zH (zH b (kM (zA b a) w)) ⟨(kM (zA b a) w).y,-(kM (zA b a) w).x⟩,zH b (kM (zA b a) w)]) rfl rfl rfl ?_;refine Ob.mk (by kernel_rfl) ?_;unfold zjw;rw [if_neg (fun k=>k h)];exact .refl
theorem zxL(p:Pt)(w:Int):zd Tryz.prog 246 [.agg (ptE p),i64 w] [] (.sl ptE (zdR p w)) []:=by
 refine zc tok mix Tryz.func246 rfl rfl rfl ?_;refine zb.t (zwK p p w) ?_;refine Br.mk (fun h=>?_) (fun h=>?_)
 ·refine ⟨Pt,ptE,[],rfl,Ob.o2 ?_⟩;exact qb (show []=zdR p w by unfold zdR;rw [if_pos (fun k=>h ⟨k.1,k.2,k.2⟩)])
 have h:zX w/\zo p:=⟨(Decidable.not_not.1 h).1,(Decidable.not_not.1 h).2.1⟩;have hh:=zmS h.1;have hw:=h.1;have hp:=h.2;unfold zX at hw;unfold zo at hp;refine zb.t (zvY w 2 ⟨oM,oM⟩ ⟨oM,oM⟩) ?_;rw [hh.2];(iterate 8 refine Ar.o ?_);refine ⟨Pt,ptE,[⟨p.x - zQ w 2,p.y - zQ w 2⟩,⟨p.x+zQ w 2,p.y - zQ w 2⟩,⟨p.x+zQ w 2,p.y+zQ w 2⟩,⟨p.x - zQ w 2,p.y+zQ w 2⟩],rfl,Ob.o0 ?_⟩
 refine zb.see 1 _ (zvZ [⟨p.x - zQ w 2,p.y - zQ w 2⟩,⟨p.x+zQ w 2,p.y - zQ w 2⟩,⟨p.x+zQ w 2,p.y+zQ w 2⟩,⟨p.x - zQ w 2,p.y+zQ w 2⟩]) rfl rfl rfl ?_;unfold zdR;rw [if_neg (fun k=>k h)];exact .refl
def wayN(q:Pt):Pt:=⟨-q.y,q.x⟩
theorem zwT:∀i:Nat,i < 12->zr.take (4+i)++[wayN ((zr.take (4+i)).getD i zp)]=zr.take (4+(i+1)):=by decide +kernel
theorem jy:∀q∈zr,(-16384<=q.x/\q.x<=16384)/\(-16384<=q.y/\q.y<=16384):=by decide +kernel
theorem zwL{i:Nat}{x:Pt}(h:(zr.take (4+i))[i]? =some x):x=(zr.take (4+i)).getD i zp:=by
 rw [List.getD_eq_getElem?_getD,h];rfl
theorem zxM:zd Tryz.prog 294 [] [] (.sl ptE zr) []:=by
 refine zc tok mix Tryz.func294 rfl rfl rfl ?_;refine ⟨Pt,ptE,zr.take 4,rfl,Ob.o0 ?_⟩;refine ⟨Nat,fun i=>⟨[(2,i64 (i:Int)),(1,.own 0)],[(0,.arr 52 ptE 2 (zr.take (4+i)))],1,28,0⟩,fun i=>i<=12,fun i=>12 - i,0,?_,?_,?_⟩
 ·exact Nat.zero_le _
 ·exact zh [(0,some 0)]
 rintro i h1
 refine Br.mk (fun g=>?_) (fun g=>?_)
 ·have g:(i:Int) < 12:=g
  have hl:(zr.take (4+i)).length=4+i:=by
   rw [List.length_take,show zr.length=16 from rfl];omega
  refine Dr.d ?_;refine Ob.o ?_;refine Ob.mk (by rw [hl];omega) ?_;intro x hx;have hx:x=(zr.take (4+i)).getD i zp:=zwL hx;have hb:=jy x (List.mem_of_mem_take (i:=4+i) (by rw [hx,List.getD_eq_getElem?_getD,List.getElem?_eq_getElem oM];exact List.getElem_mem _));refine Ar.o ?_;refine Ob.o ?_;refine Ob.mk (by rw [hl];omega) ?_;intro y hy;have hy:y=x:=(zwL hy).trans hx.symm;rw [hy];refine ⟨Pt,ptE,[wayN x],rfl,Ob.o0 ?_⟩
  refine ⟨[wayN x],rfl,Ob.mk ⟨(by show _*(16:Int)<=_;simp only [hl,List.length_cons,List.length_nil];omega),(by simp only [hl,List.length_cons,List.length_nil];omega),dC,fun _ _=>rfl⟩ ?_⟩;refine Ob.mk (by kernel_rfl) ?_;refine Ar.o ?_;exact ⟨i+1,oM,zM [(0,some 2)] ⟨congrArg (fun q=>some (Mem.arr 52 ptE 2 q)) (show zr.take (4+i)++[wayN x]=zr.take (4+(i+1)) by rw [hx];exact zwT i oM),trivial⟩,by dsimp only;omega⟩
 ·have e:i=12:=by have g:¬(i:Int) < 12:=g;omega
  subst e;exact qb rfl
def qI(p:Pt)(w:Int)(q:Pt):Pt:=zH p ⟨zQ (q.x*w) 32768,zQ (q.y*w) 32768⟩
theorem zR{x w:Int}(hx: -16384<=x/\x<=16384)(hw:zX w):(-268435456<=x*w/\x*w<=268435456)/\(-268435456<=zQ (x*w) 32768/\zQ (x*w) 32768<=268435456)/\yH (zQ (x*w) 32768)=zQ (x*w) 32768:=by
 unfold zX at hw;have h:=qZ (A:=16384) (B:=16384) (a:=x) (b:=w) oM oM;have:=yI (a:=x*w) (b:=32768) (M:=268435456) oM;exact ⟨oM,oM,zav oM⟩
theorem zwD(p:Pt)(w:Int):zd Tryz.prog 247 [.agg (ptE p),i64 w] [] (.sl ptE (vZ p w)) []:=by
 refine zc tok mix Tryz.func247 rfl rfl rfl ?_;refine zb.t (zwK p p w) ?_;refine Br.mk (fun h=>?_) (fun h=>?_)
 ·refine ⟨Pt,ptE,[],rfl,Ob.o2 ?_⟩;exact qb (show []=vZ p w by unfold vZ;rw [if_pos (fun k=>h ⟨k.1,k.2,k.2⟩)])
 have h:zX w/\zo p:=⟨(Decidable.not_not.1 h).1,(Decidable.not_not.1 h).2.1⟩;refine zb.t zxM ?_;refine ⟨Pt,ptE,[],rfl,Ob.o2 ?_⟩;refine ⟨Nat,fun i=>⟨[(7,i64 (i:Int)),(6,.own 1),(5,.sl ptE zr),(2,.loc 0 0),(1,i64 w)],[(1,.arr 52 ptE 2 ((zr.take i).map (qI p w))),(0,.box 52 (ptE p))],2,46,0⟩,fun i=>i<=16,fun i=>16 - i,0,?_,?_,?_⟩
 ·exact Nat.zero_le _
 ·exact zh [(0,some 0),(1,some 1)]
 rintro i h1
 intro hl2;have hL:zr.length=16:=rfl;refine Br.mk (fun g=>?_) (fun g=>?_)
 ·have g:(i:Int) < (zr.length:Int):=g
  have hl:((zr.take i).map (qI p w)).length=i:=by
   rw [List.length_map,List.length_take];omega
  refine Dr.d ?_;refine Ob.o ?_;intro x hx;have hx:zr[i]? =some x:=hx;have hb:=jy x (List.mem_of_getElem? hx);have t1:=zR hb.1 h.1;have t2:=zR hb.2 h.1;refine Ar.o ?_;refine zb.t (zvY (x.x*w) 32768 ⟨oM,oM⟩ ⟨dC,dC⟩) ?_;rw [t1.2.2];refine Ob.o ?_;intro y hy;have hy:y=x:=Option.some.inj ((show zr[i]? =some y from hy).symm.trans hx);rw [hy];refine Ar.o ?_;refine zb.t (zvY (x.y*w) 32768 ⟨oM,oM⟩ ⟨dC,dC⟩) ?_;rw [t2.2.2];refine zb.t (zv6 p ⟨zQ (x.x*w) 32768,zQ (x.y*w) 32768⟩ h.2.p45.s ⟨by dsimp only;omega,by dsimp only;omega⟩) ?_
  refine ⟨Pt,ptE,[qI p w x],rfl,Ob.o0 ?_⟩;refine ⟨[qI p w x],rfl,Ob.mk ⟨(by show _*(16:Int)<=_;simp only [hl,List.length_cons,List.length_nil];omega),(by simp only [hl,List.length_cons,List.length_nil];omega),dC,fun _ _=>rfl⟩ ?_⟩;refine Ob.mk (by kernel_rfl) ?_;refine Ar.o ?_;exact ⟨i+1,oM,zM [(0,some 0),(1,some 3)] ⟨congrArg (fun q=>some (Mem.arr 52 ptE 2 q)) (by rw [List.take_add_one,hx,List.map_append];rfl),rfl,trivial⟩,by dsimp only;omega⟩
 ·have e:i=16:=by have g:¬(i:Int) < (zr.length:Int):=g;omega
  subst e;refine zb.see 1 _ (zvZ (zr.map (qI p w))) rfl rfl rfl ?_;refine qb (show kj (zr.map (qI p w))=vZ p w from ?_);unfold vZ;rw [if_neg (fun k=>k h)];rfl
end Go.Gs
