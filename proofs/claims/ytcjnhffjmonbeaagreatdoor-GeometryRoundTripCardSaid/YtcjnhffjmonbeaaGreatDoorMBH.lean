/- Points put behind a polyline, the points of a segment, both texts. -/
import Derived.Test.YtcjnhffjmonbeaaGreatDoorMA
import Derived.Test.YtcjnhffjmonbeaaGreatDoorMBG
import Derived.Test.YtcjnhffjmonbeaaGreatDoorMAR
import Derived.Test.YtcjnhffjmonbeaaGreatDoorMBC
import Derived.Test.YtcjnhffjmonbeaaGreatDoorMBB
import Derived.Test.YtcjnhffjmonbeaaGreatDoorMAY
import Derived.Defers
set_option maxRecDepth 100000
set_option maxHeartbeats 8000000
set_option linter.all false
namespace Go.Gs
open Go.Proofs
theorem zkX{α:Type _}{A:List α}{z y:α}{n:Nat}(h:(A++[z])[n]? =some y)(hn:n=A.length):y=z:=by
 subst hn;simp at h;exact h.symm
theorem zh1{α:Type _}{A:List α}{z w:α}{n:Nat}(hn:n=A.length):(A++[z]).set n w=A++[w]:=by
 subst hn;simp
def ztA(cl:List Pl)(k:Nat)(b:SV):List (List SV):=cl.map plE++[[SV.own k,b]]
theorem yO(cl:List Pl)(k:Nat)(b:SV):(ztA cl k b).length=cl.length+1:=by unfold ztA;simp
theorem zjF(ks:List Nat)(κ:Nat)(cl:List Pl)(k:Nat)(p:Prop)(i:Decidable p):(ztA cl k (.pr p i)).map (y4.rens ks κ)=ztA cl (rn ks κ k) (.pr p i):=by
 unfold ztA;rw [List.map_append,List.map_map];rfl
theorem zpt{n k:Nat}(h:Nat.blt k n=true)(cl:List Pl)(p:Prop)(i:Decidable p):∀x∈ztA cl k (.pr p i),yp.lows n x=true:=fun x hx=>by
 rcases List.mem_append.1 hx with hx | hx
 ·obtain ⟨q,_,rfl⟩:=List.mem_map.1 hx;rfl
 ·rw [List.mem_singleton.1 hx];simp only [yp.lows,yp,h]
theorem zpu{n k:Nat}(h:Nat.blt k n=true)(cl:List Pl)(p:Prop)(i:Decidable p):∀x∈ztA cl k (.pr p i),vA.outs n x=true:=fun x hx=>by
 rcases List.mem_append.1 hx with hx | hx
 ·obtain ⟨q,_,rfl⟩:=List.mem_map.1 hx;rfl
 ·rw [List.mem_singleton.1 hx];simp only [vA.outs,vA,h]
theorem yG{tb:List (Nat×Option Nat)}{cl:List Pl}{a b:Nat}{p:Prop}{i:Decidable p}(h:uu tb b=some (some a)):
  (ztA cl a (.pr p i)).length=(ztA cl b (.pr p i)).length/\∀(j:Nat) x,(ztA cl b (.pr p i))[j]? =some x->∃x',(ztA cl a (.pr p i))[j]? =some x'/\ren.rens tb x=some x':=by
 refine ⟨by rw [yO,yO],fun j x hx=>?_⟩;unfold ztA at hx ⊢;rw [List.getElem?_append] at hx
 split at hx
 ·rename_i hi;rw [List.getElem?_map] at hx
  cases hy:cl[j]? with
  | none=>simp [hy] at hx
  | some y=>
   simp [hy] at hx;subst hx;exact ⟨plE y,by rw [List.getElem?_append_left hi,List.getElem?_map,hy];rfl,rfl⟩
 ·rename_i hi
  have h0:j - (cl.map plE).length=0:=by
   have:=(List.getElem?_eq_some_iff.1 hx).1;simp at this;simp at hi ⊢;omega
  rw [h0] at hx;simp at hx;subst hx;refine ⟨[.own a,.pr p i],by rw [List.getElem?_append_right oM,h0];rfl,?_⟩;simp only [ren.rens,ren,h]
theorem zq4(q:List Pt)(x:Pt):(zag q x).length<=q.length+1:=by
 unfold zag;split
 ·omega
 ·simp
theorem zfx:∀(more q:List Pt),(qj q more).length<=q.length+more.length
 | [],q=>by simp [qj]
 | x::r,q=>by
  have h1:=zfx r (zag q x);have h2:=zq4 q x;have e:qj q (x::r)=qj (zag q x) r:=rfl;rw [e,List.length_cons];omega
theorem zne{q more:List Pt}{i:Nat}{x:Pt}(h:more[i]? =some x):qj q (more.take (i+1))=zag (qj q (more.take i)) x:=by
 unfold qj;rw [List.take_add_one,h];simp [List.foldl_append]
theorem zsY{q:List Pt}{x z:Pt}(h:q[q.length - 1]? =some z)(e:z=x):zag q x=q:=by
 unfold zag;rw [List.getLast?_eq_getElem?,h,e,if_pos rfl]
theorem zq5{q:List Pt}{x z:Pt}(h:q[q.length - 1]? =some z)(e:¬z=x):zag q x=q++[x]:=by
 unfold zag;rw [List.getLast?_eq_getElem?,h,if_neg (fun k=>e (Option.some.inj k))]
theorem zq6{q:List Pt}{x:Pt}(h:q.length=0):zag q x=q++[x]:=by
 rw [List.eq_nil_of_length_eq_zero h];rfl
theorem zsZ(cl:List Pl)(q more:List Pt)(B:Prop)[iB:Decidable B](hq:q.length<=100000)(hm:more.length<=64)(hcl:cl.length<=300):
  ze Tryz.prog 178 [.eloc 0 2 (cl.length:Int) 0,.sl ptE more] [(0,.garr 163 2 (ztA cl 1 (pr B))),(1,.arr 46 ptE 2 q)] (.tup [])
   [(0,.garr 163 2 (ztA cl 2 (pr B))),(2,.arr 46 ptE 2 (qj q more))]:=by
 refine zku tok mix Tryz.func178 rfl rfl rfl ?_;intro hl1
 refine ⟨Nat,fun i=>⟨[(0,.eloc 0 2 (cl.length:Int) 0),(7,.sl ptE more),(8,i64 (more.length:Int)),(9,i64 (i:Int))],
   [(0,.garr 163 2 (ztA cl 2 (pr B))),(2,.arr 46 ptE 2 (qj q (more.take i)))],3,43,2⟩,fun i=>i<=more.length,fun i=>more.length - i,0,?_,?_,?_⟩
 ·exact Nat.zero_le _
 ·exact k9 [(0,some 0),(1,some 1),(2,some 1)] ⟨⟨_,rfl,yG rfl⟩,rfl,trivial⟩
 rintro i hi
 have hlen:=zfx (more.take i) q;rw [List.length_take] at hlen;have hcell:∀{y:List SV} {k:Nat} {b:SV},(ztA cl k b)[(cl.length:Int).toNat]? =some y->y=[.own k,b]:=fun h=>zkX h (by simp)
 have hcn:(cl.length:Int).toNat=(cl.map plE).length:=by simp
 have hset:∀(k:Nat) (b:SV) (w:List SV),(ztA cl k b).set (cl.length:Int).toNat w=cl.map plE++[w]:=fun k b w=>by unfold ztA;exact zh1 hcn
 have hrow:0<=(cl.length:Int)/\(cl.length:Int) < (ztA cl 2 (pr B)).length:=by rw [yO];omega
 refine Br.mk (fun g=>?_) (fun g=>?_)
 ·have g:(i:Int) < more.length:=g;refine Ob.o ?_;intro x hx;have hx:more[i]? =some x:=hx;have e:=zne (q:=q) hx;refine Ob.mk hrow ?_;intro y hy;obtain rfl:=hcell hy;intro hl2
  have yes:qj q (more.take (i+1))=(qj q (more.take i))++[x]->∀{σ:St},Sub σ ⟨[(0,.eloc 0 2 (cl.length:Int) 0),(7,.sl ptE more),(8,i64 (more.length:Int)),(9,i64 ((i+1:Nat):Int))],
    [(0,.garr 163 2 (ztA cl 2 (pr B))),(2,.arr 46 ptE 2 ((qj q (more.take i))++[x]))],3,43,2⟩->Sub σ ⟨[(0,.eloc 0 2 (cl.length:Int) 0),(7,.sl ptE more),(8,i64 (more.length:Int)),(9,i64 ((i+1:Nat):Int))],
    [(0,.garr 163 2 (ztA cl 2 (pr B))),(2,.arr 46 ptE 2 (qj q (more.take (i+1))))],3,43,2⟩:=fun h σ k=>by rw [h];exact k
  refine Dr.d ?_;refine Br.mk (fun z=>?_) (fun z=>?_)
  ·have z:((qj q (more.take i)).length:Int)=0:=z;refine Ob.mk (by kernel_rfl) ?_;refine Dr.d ?_;refine Ob.mk hrow ?_;intro y hy;obtain rfl:=hcell hy;refine ⟨Pt,ptE,[x],rfl,Ob.o0 ?_⟩;refine ⟨[x],rfl,Ob.o6 ?_⟩;refine Ob.mk hrow ?_;intro y hy;obtain rfl:=hcell hy;refine Ob.mk (by kernel_rfl) ?_;refine Ar.o ?_;refine ⟨i+1,oM,yes (by rw [e,zq6 oM]) (k9 [(0,some 0),(1,some 1),(2,some 5)] ⟨⟨_,congrArg (fun q=>some (Mem.garr 163 2 q)) (hset _ _ _),yG rfl⟩,rfl,trivial⟩),by dsimp only;omega⟩
  have z:¬((qj q (more.take i)).length:Int)=0:=z;refine Ob.mk hrow ?_;intro y hy;obtain rfl:=hcell hy;refine Ar.o ?_;refine Ob.o ?_;refine Ob.o ?_;intro t ht
  have ht:(qj q (more.take i))[(qj q (more.take i)).length - 1]? =some t:=by
   have ht:(qj q (more.take i))[(((qj q (more.take i)).length:Int) - 1).toNat]? =some t:=ht
   rwa [show (((qj q (more.take i)).length:Int) - 1).toNat=(qj q (more.take i)).length - 1 by omega] at ht
  refine Ob.mk (by kernel_rfl) ?_;refine Br.mk (fun k=>?_) (fun k=>?_)
  ·have k:¬t=x:=fun h=>k (jd.2 h)
   refine Dr.d ?_;refine Ob.mk hrow ?_;intro y hy;obtain rfl:=hcell hy;refine ⟨Pt,ptE,[x],rfl,Ob.o0 ?_⟩;refine ⟨[x],rfl,Ob.o6 ?_⟩;refine Ob.mk hrow ?_;intro y hy;obtain rfl:=hcell hy;refine Ob.mk (by kernel_rfl) ?_;refine Ar.o ?_;refine ⟨i+1,oM,yes (by rw [e,zq5 ht k]) (k9 [(0,some 0),(1,some 1),(2,some 5)] ⟨⟨_,congrArg (fun q=>some (Mem.garr 163 2 q)) (hset _ _ _),yG rfl⟩,rfl,trivial⟩),by dsimp only;omega⟩
  ·have k:t=x:=jd.1 (Decidable.not_not.1 k);refine Ar.o ?_;refine ⟨i+1,oM,k9 [(0,some 0),(1,some 1),(2,some 2)] ⟨⟨_,rfl,yG rfl⟩,congrArg (fun q=>some (Mem.arr 46 ptE 2 q)) (by rw [e,zsY ht k]),trivial⟩,by dsimp only;omega⟩
 ·have g:¬(i:Int) < more.length:=g;have e:more.take i=more:=List.take_of_length_le oM;exact ⟨_,.refl,congrArg (fun l=>[(0,Mem.garr 163 2 (ztA cl 2 (pr B))),(2,Mem.arr 46 ptE 2 (qj q l))]) e,.refl⟩
theorem zuE(q more:List Pt)(hq:q.length<=100000)(hm:more.length<=64):
  ze Tryz.prog 182 [.own 0,.sl ptE more] [(0,.arr 46 ptE 2 q)] (.own 1) [(1,.arr 46 ptE 2 (qj q more))]:=by
 refine zku tok mix Tryz.func182 rfl rfl rfl ?_;refine ⟨Nat,fun i=>⟨[(0,.own 1),(1,.sl ptE more),(5,i64 (i:Int))],[(1,.arr 46 ptE 2 (qj q (more.take i)))],2,36,1⟩,fun i=>i<=more.length,fun i=>more.length - i,0,?_,?_,?_⟩
 ·exact Nat.zero_le _
 ·exact zi [(0,some 0),(1,some 0)]
 rintro i hi
 have hlen:=zfx (more.take i) q;rw [List.length_take] at hlen;intro hl1;refine Br.mk (fun g=>?_) (fun g=>?_)
 ·have g:(i:Int) < more.length:=g;obtain ⟨x,hx⟩:∃x,more[i]? =some x:=⟨_,List.getElem?_eq_getElem oM⟩;have e:=zne (q:=q) hx;have same:∀{y:Pt},more[(i:Int).toNat]? =some y->y=x:=fun h=>Option.some.inj ((show more[i]? =some _ from h).symm.trans hx)
  refine Dr.d ?_;intro hl2;refine Br.mk (fun z=>?_) (fun z=>?_)
  ·have z:((qj q (more.take i)).length:Int)=0:=z;refine Ob.mk (by kernel_rfl) ?_;refine Ob.o ?_;intro y hy;rw [same hy];refine ⟨Pt,ptE,[x],rfl,Ob.o0 ?_⟩;refine ⟨[x],rfl,Ob.o6 ?_⟩;refine Ar.o ?_;refine ⟨i+1,oM,k9 [(0,some 0),(1,some 3)] ⟨congrArg (fun q=>some (Mem.arr 46 ptE 2 q)) (by rw [e,zq6 oM]),trivial⟩,by dsimp only;omega⟩
  have z:¬((qj q (more.take i)).length:Int)=0:=z;intro hl3;refine Ar.o ?_;refine Ob.o ?_;refine Ob.o ?_;intro t ht
  have ht:(qj q (more.take i))[(qj q (more.take i)).length - 1]? =some t:=by
   have ht:(qj q (more.take i))[(((qj q (more.take i)).length:Int) - 1).toNat]? =some t:=ht
   rwa [show (((qj q (more.take i)).length:Int) - 1).toNat=(qj q (more.take i)).length - 1 by omega] at ht
  refine Ob.o ?_;intro y hy;rw [same hy];refine Ob.mk (by kernel_rfl) ?_;refine Br.mk (fun k=>?_) (fun k=>?_)
  ·have k:¬t=x:=fun h=>k (jd.2 h)
   refine Ob.o ?_;intro y hy;rw [same hy];refine ⟨Pt,ptE,[x],rfl,Ob.o0 ?_⟩;refine ⟨[x],rfl,Ob.o6 ?_⟩;refine Ar.o ?_;refine ⟨i+1,oM,k9 [(0,some 0),(1,some 3)] ⟨congrArg (fun q=>some (Mem.arr 46 ptE 2 q)) (by rw [e,zq5 ht k]),trivial⟩,by dsimp only;omega⟩
  ·have k:t=x:=jd.1 (Decidable.not_not.1 k);refine Ar.o ?_;refine ⟨i+1,oM,k9 [(0,some 0),(1,some 1)] ⟨congrArg (fun q=>some (Mem.arr 46 ptE 2 q)) (by rw [e,zsY ht k]),trivial⟩,by dsimp only;omega⟩
 ·have g:¬(i:Int) < more.length:=g;have e:more.take i=more:=List.take_of_length_le oM;exact ⟨_,.refl,congrArg (fun l=>[(1,Mem.arr 46 ptE 2 (qj q l))]) e,.refl⟩
theorem zpv{p:Pt}{s:Sg}{tol:Int}(h:s.v=3):qJ p s tol=zaP p s.a s.b tol:=by unfold qJ;rw [if_pos h]
theorem zpw{p:Pt}{s:Sg}{tol:Int}(h3:¬s.v=3)(h:s.v=4):qJ p s tol=zaQ p s.a s.b s.c tol:=by unfold qJ;rw [if_neg h3,if_pos h]
theorem zpx{p:Pt}{s:Sg}{tol:Int}(h3:¬s.v=3)(h:¬s.v=4):qJ p s tol=([s.a],0):=by unfold qJ;rw [if_neg h3,if_neg h]
theorem p_seg(p:Pt)(s:Sg)(tol:Int)(hp:zP p)(hs:zP s.a/\zP s.b/\zP s.c):ze Tryz.prog 177 [.agg (ptE p),.agg (sgE s),i64 tol] [] (zpr (qJ p s tol)) []:=by
 refine zd tok mix Tryz.func177 rfl rfl rfl ?_;refine Br.mk (fun h3=>?_) (fun h3=>?_)
 ·have h3:s.v=3:=h3;refine zb.t (zsW p s.a s.b tol hp hs.1 hs.2.1) ?_;rw [zpv h3];exact .refl
 have h3:¬s.v=3:=h3;refine Br.mk (fun h4=>?_) (fun h4=>?_)
 ·have h4:s.v=4:=h4;refine zb.t (zsX p s.a s.b s.c tol hp hs.1 hs.2.1 hs.2.2) ?_;rw [zpw h3 h4];exact .refl
 have h4:¬s.v=4:=h4;refine ⟨Pt,ptE,[s.a],rfl,Ob.o0 ?_⟩;exact zkW (zpx h3 h4)
theorem r_seg(p:Pt)(s:Sg)(tol:Int):ze Tryz.prog 181 [.agg (ptE p),.agg (sgE s),i64 tol] [] (zpr (qJ p s tol)) []:=by
 refine zd tok mix Tryz.func181 rfl rfl rfl ?_;refine Br.mk (fun h3=>?_) (fun h3=>?_)
 ·have h3:s.v=3:=h3;refine zb.t (zuC p s.a s.b tol) ?_;rw [zpv h3];exact .refl
 have h3:¬s.v=3:=h3;refine Br.mk (fun h4=>?_) (fun h4=>?_)
 ·have h4:s.v=4:=h4;refine zb.t (zuD p s.a s.b s.c tol) ?_;rw [zpw h3 h4];exact .refl
 have h4:¬s.v=4:=h4;refine ⟨Pt,ptE,[s.a],rfl,Ob.o0 ?_⟩;exact zkW (zpx h3 h4)
theorem zh2{cl:List Pl}{k:Nat}{b:SV}{y:List SV}{n:Int}(hn:n=(cl.length:Int))(h:(ztA cl k b)[n.toNat]? =some y):y=[.own k,b]:=by
 subst hn;exact zkX h (by simp)
theorem zcP{cl:List Pl}{k:Nat}{b:SV}{w:List SV}{n:Int}(hn:n=(cl.length:Int)):(ztA cl k b).set n.toNat w=cl.map plE++[w]:=by
 subst hn;exact zh1 (by simp)
theorem zaW{cl:List Pl}{k:Nat}{b:SV}{w y:List SV}{n:Int}(hn:n=(cl.length:Int))(h:((ztA cl k b).set n.toNat w)[n.toNat]? =some y):y=w:=by
 rw [zcP hn] at h;subst hn;exact zkX h (by simp)
theorem znf{cl:List Pl}{k:Nat}{b:SV}{w w':List SV}{n:Int}(hn:n=(cl.length:Int)):((ztA cl k b).set n.toNat w).set n.toNat w'=cl.map plE++[w']:=by
 rw [zcP hn];subst hn;exact zh1 (by simp)
theorem zjG{cl:List Pl}{p:Pl}{a:Nat}(T:List (List SV)):
  ∀(i j:Nat) (x':List SV) (s':SV),((cl++[p]).map plE++T)[i]? =some x'->x'[j]? =some s'->∃(x:List SV) (s:SV),(ztA cl a (pr (p.cl=true))++T)[i]? =some x/\x[j]? =some s/\(s'=s∨(s=.own a/\s'=.sl ptE p.pts)):=by
 intro i j x' s' hx hs;unfold ztA;rw [List.map_append] at hx;generalize cl.map plE=L at*
 rcases Nat.lt_trichotomy i L.length with h | h | h
 ·rw [List.append_assoc,List.getElem?_append_left h] at hx;exact ⟨x',s',by rw [List.append_assoc,List.getElem?_append_left h];exact hx,hs,.inl rfl⟩
 ·subst h;rw [List.append_assoc,List.getElem?_append_right (Nat.le_refl _)] at hx;simp at hx;subst hx;refine ⟨[.own a,pr (p.cl=true)],?_⟩
  match j,hs with
  | 0,hs=>simp [plE] at hs;subst hs;exact ⟨.own a,by simp,rfl,.inr ⟨rfl,rfl⟩⟩
  | 1,hs=>simp [plE] at hs;subst hs;exact ⟨pr (p.cl=true),by simp,rfl,.inl rfl⟩
  | j+2,hs=>simp [plE] at hs
 ·rw [List.getElem?_append_right (by simp;omega)] at hx;refine ⟨x',s',?_,hs,.inl rfl⟩;rw [List.getElem?_append_right (by simp;omega)];rw [← hx];congr 1;simp
theorem zq7(p:Pt)(s:Sg)(tol:Int):(qJ p s tol).1.length<=64:=by
 unfold qJ
 split
 ·unfold zaP;split
  ·exact Nat.zero_le _
  ·rename_i h;have ok:=(ug (show (qw _ tol _).2=0 from Decidable.not_not.1 h)).1;have ok:1<=(jI p s.a s.b tol).1/\(jI p s.a s.b tol).1<=64:=ok;dsimp only;rw [zaV];omega
 ·split
  ·unfold zaQ;split
   ·exact Nat.zero_le _
   ·rename_i h;have ok:=(ug (show (qw _ tol _).2=0 from Decidable.not_not.1 h)).1;have ok:1<=(jJ p s.a s.b s.c tol).1/\(jJ p s.a s.b s.c tol).1<=64:=ok;dsimp only;rw [zaV];omega
  ·show 1<=64;decide
theorem zpy{l:List Pt}{z:Pt}(h:l[l.length - 1]? =some z):zdK l=z:=by
 unfold zdK;rw [List.getLastD_eq_getLast?,List.getLast?_eq_getElem?,h];rfl
theorem zgU{l:List Pl}{i:Nat}{x:Pl}(h:l[i]? =some x):uK (l.take (i+1))=uK (l.take i)+x.pts.length:=by
 unfold uK;rw [List.take_add_one,h];simp
theorem zl0{l:List Pl}{B:Nat}(h:∀q∈l,q.pts.length<=B):∀i,i<=l.length->uK (l.take i)<=B*i
 | 0,_=>Nat.zero_le _
 | i+1,hi=>by
  have hx:l[i]? =some l[i]:=List.getElem?_eq_getElem oM;rw [zgU hx];have:=zl0 h i oM;have:=h _ (List.getElem_mem (show i < l.length by omega));rw [Nat.mul_succ];omega
def plsE(c:List Pl×Int):SV:=.tup [.sl plE c.1,i64 c.2]
theorem zs0{c:List Pl×Int}{a:List Pl}{b:Int}(h:c=(a,b)):LE (.tup [.sl plE a,i64 b]) (plsE c):=by subst h;exact .refl
theorem zbx{c:List Pl×Int}{b:Int}(h:c=([],b)):LE (.tup [.val (.slice none 0 0),i64 b]) (plsE c):=by subst h;exact zS zI .refl
theorem zpz{q:List Pt}{z f:Pt}(h1:1 < q.length)(hz:q[q.length - 1]? =some z)(hf:q[0]? =some f)(e:z=f):je q=q.take (q.length - 1):=by
 unfold je;rw [List.getLast?_eq_getElem?,hz,List.head?_eq_getElem?,hf,e,if_pos ⟨h1,rfl⟩,List.dropLast_eq_take]
theorem zq8{q:List Pt}{z f:Pt}(hz:q[q.length - 1]? =some z)(hf:q[0]? =some f)(e:¬z=f):je q=q:=by
 unfold je;rw [List.getLast?_eq_getElem?,hz,List.head?_eq_getElem?,hf,if_neg (fun k=>e (Option.some.inj k.2))]
theorem zpA{q:List Pt}(h:¬1 < q.length):je q=q:=by
 unfold je;rw [if_neg (fun k=>h k.1)]
theorem zpB(q:List Pt):(je q).length<=q.length:=by
 unfold je;split
 ·rw [List.length_dropLast];omega
 ·exact Nat.le_refl _
theorem zpC{tol:Int}{cl:List Pl}{p:Pl}{s:Sg}(h1:¬s.v=1):jk tol (cl++[p],0) s=if (vT p s tol).2≠0 then ([],(vT p s tol).2) else (cl++[(vT p s tol).1],0):=by
 rw [zec,if_neg h1];have e:(cl++[p]).getLastD ⟨[],false⟩=p:=by simp
 rw [e,List.dropLast_concat]
theorem zq9{s:Sg}(h:zdV s):zP s.a/\zP s.b/\zP s.c:=⟨h.1.1,h.2.1.1,h.2.2.1⟩
theorem zs1(l:List Sg)(tol:Int):ze Tryz.prog 125 [.sl sgE l,i64 tol] [] (plsE (kZ l tol)) []:=by
 refine zd tok mix Tryz.func125 rfl rfl rfl ?_;refine zb.t (zea l) ?_;refine Br.mk (fun a0=>zbx (by unfold kZ;rw [if_pos a0])) (fun a0=>?_);have hv:=Decidable.not_not.1 a0;have hlen:=zmR hv;have ho:=(zbt.1 hv).2;have bad:¬zcK tol->kZ l tol=([],2):=fun h=>by unfold kZ;rw [zaR hv,if_pos h]
 refine Br.mk (fun a1=>zbx (bad (fun h=>by have a1:tol < 1:=a1;unfold zcK at h;omega))) (fun a1=>?_);refine Br.mk (fun a2=>zbx (bad (fun h=>by have a2:256 < tol:=a2;unfold zcK at h;omega))) (fun a2=>?_);have ht:zcK tol:=⟨by have a1:¬tol < 1:=a1;omega,by have a2:¬256 < tol:=a2;omega⟩;have eQ:kZ l tol=if (zty l tol).2≠0 then ([],(zty l tol).2) else if 4096 < uK (zty l tol).1 then ([],5) else ((zty l tol).1,0):=by unfold kZ;rw [zaR hv,zaR ht]
 intro hl3
 refine ⟨Nat×Option (List Pl×Pl),fun q=>match q with
   | (i,none)=>⟨[(1,i64 tol),(6,.val (.slice none 0 0)),(27,.sl sgE l),(28,i64 (l.length:Int)),(29,i64 (i:Int))],[],0,128,0⟩
   | (i,some (cl,p))=>⟨[(1,i64 tol),(6,.own 0),(27,.sl sgE l),(28,i64 (l.length:Int)),(29,i64 (i:Int))],[(0,.garr 163 2 (ztA cl 1 (pr (p.cl=true)))),(1,.arr 46 ptE 2 p.pts)],2,128,0⟩,
  fun q=>match q with
   | (i,none)=>i=0
   | (i,some (cl,p))=>0 < i/\i<=l.length/\zty (l.take i) tol=(cl++[p],0)/\cl.length < i/\p.pts.length<=1+64*i/\∀q∈cl,q.pts.length<=20000,fun q=>l.length - q.1,(0,none),rfl,?_,?_⟩
 ·exact zi []
 rintro ⟨i,_ | ⟨cl,p⟩⟩ hI
 ·have hI:i=0:=hI;subst hI;refine Br.mk (fun g=>?_) (fun g=>?_)
  ·have g:(0:Int) < l.length:=g;refine Ob.mk ⟨dC,g⟩ ?_;intro x hx;have hx:l[0]? =some x:=hx;have hv1:x.v=1:=zjo hv x hx;refine Br.mk (fun _=>?_) (fun h=>absurd hv1 h);refine ⟨Pt,ptE,[x.a],rfl,Ob.o0 ?_⟩;refine ⟨[[.own 1,.val (.bool false)]],rfl,Ob.o18 ?_⟩;refine Ob.mk ⟨by show ((1:Nat):Int)*32<=_;decide,by show 1<=_;decide,dC⟩ ?_;refine Ar.fit dC ?_;have e:=vU (tol:=tol) hx
   refine ⟨(1,some ([],⟨[x.a],false⟩)),⟨dC,oM,?_,dC,by show 1<=_;decide,fun q hq=>by cases hq⟩,
    (zbg 3 rfl (ys:=ztA [] 1 (pr ((⟨[x.a],false⟩:Pl).cl=true))) (.cons (.cons .refl (.cons (zc (show ¬(false=true) by decide)) .nil)) .nil)).trans (k9 [(0,some 3),(1,some 1)] ⟨⟨_,rfl,yG rfl⟩,rfl,trivial⟩),by show l.length - 1 < l.length - 0;omega⟩
   rw [e];show jk tol ([],0) x=_;rw [zec,if_pos hv1]
  ·have g:¬(0:Int) < l.length:=g;have hl0:l=[]:=List.eq_nil_of_length_eq_zero oM;refine ⟨Unit,fun _=>⟨[(6,.val (.slice none 0 0)),(13,i64 0),(114,i64 0),(115,i64 0)],[],0,128,0⟩,fun _=>True,fun _=>0,(),trivial,?_,?_⟩
   ·exact zi []
   rintro ⟨⟩ _
   refine Br.mk (fun g=>absurd g dC) (fun _=>?_);refine Br.mk (fun g=>absurd g dC) (fun _=>?_);refine zbx ?_;rw [eQ,hl0];rfl
 obtain ⟨k0,k1,k2,k3,k4,k5⟩:0 < i/\i<=l.length/\zty (l.take i) tol=(cl++[p],0)/\cl.length < i/\p.pts.length<=1+64*i/\∀q∈cl,q.pts.length<=20000:=hI;have inv:=zfr (tol:=tol) (lo:=⟨-1048576,-1048576⟩) (hi:=⟨1048576,1048576⟩) ho (fun p hp=>zpc hv p hp) i k1 (by rw [k2]);rw [k2] at inv;obtain ⟨pne,_,pok⟩:=inv.2 p (by simp);have hp1:0 < p.pts.length:=Nat.pos_of_ne_zero fun h=>pne (List.eq_nil_of_length_eq_zero h)
 refine Br.mk (fun g=>?_) (fun g=>?_)
 ·have g:(i:Int) < l.length:=g;refine Ob.mk ⟨oM,g⟩ ?_;intro x hx;have hx:l[i]? =some x:=hx;have e:=vU (tol:=tol) hx;rw [k2] at e;have hf:=zq9 (zjt ho x (List.mem_of_getElem? hx));refine Br.mk (fun v1=>?_) (fun v1=>?_)
  ·have v1:x.v=1:=v1;refine ⟨Pt,ptE,[x.a],rfl,Ob.o0 ?_⟩;refine ⟨[[.own 3,.val (.bool false)]],rfl,Ob.o18 ?_⟩;refine Ob.mk ⟨by show _*(32:Int)<=_;rw [yO];simp only [List.length_cons,List.length_nil];omega,by rw [yO];simp only [List.length_cons,List.length_nil];omega,dC⟩ ?_;refine Ar.o ?_
   refine ⟨(i+1,some (cl++[p],⟨[x.a],false⟩)),⟨oM,oM,?_,?_,?_,?_⟩,
    ((zbg 5 rfl (ys:=ztA cl 1 (pr (p.cl=true))++[[.own 3,pr ((⟨[x.a],false⟩:Pl).cl=true)]]) (Rows.app .refl (.cons (.cons .refl (.cons (zc (show ¬(false=true) by decide)) .nil)) .nil))).trans
     (zhz (sz0:=2) (T0:=163) 1 5 (enc:=ptE) (ys:=p.pts) rfl rfl (xs':=ztA (cl++[p]) 3 (pr ((⟨[x.a],false⟩:Pl).cl=true))) (by simp [ztA]) (fun z hz=>?_) (zjG _))).trans
     (k9 [(0,some 5),(1,some 3)] ⟨⟨_,rfl,yG rfl⟩,rfl,trivial⟩),by show l.length - (i+1) < l.length - i;omega⟩
   ·rw [e,zec,if_pos v1]
   ·simp only [List.length_append,List.length_cons,List.length_nil];omega
   ·show 1<=_;omega
   ·intro q hq
    rcases List.mem_append.1 hq with hq | hq
    ·exact k5 q hq
    ·rw [List.mem_singleton.1 hq];omega
   ·rcases List.mem_append.1 hz with hz | hz
    ·obtain ⟨w,_,rfl⟩:=List.mem_map.1 hz;rfl
    ·rw [List.mem_singleton.1 hz];rfl
  have v1:¬x.v=1:=v1;rw [zpC v1] at e;intro hl6;refine Ar.o ?_;have hrl:=yO cl 1 (pr (p.cl=true));have hN:((ztA cl 1 (pr (p.cl=true))).length:Int) - 1=cl.length:=by rw [hrl];omega
  have hrow:0<=((ztA cl 1 (pr (p.cl=true))).length:Int) - 1/\((ztA cl 1 (pr (p.cl=true))).length:Int) - 1 < (ztA cl 1 (pr (p.cl=true))).length:=oM;refine Ob.mk hrow ?_;refine Br.mk (fun v5=>?_) (fun v5=>?_)
  ·have v5:¬x.v=5:=v5;refine Dr.d ?_;refine Ob.mk hrow ?_;intro y hy;obtain rfl:=zh2 hN hy;refine Ob.mk hrow ?_;intro y hy;obtain rfl:=zh2 hN hy;intro hl8;refine Ar.o ?_;refine Ob.o ?_;refine Ob.o ?_;intro z hz
   have hz:p.pts[p.pts.length - 1]? =some z:=by
    have hz:p.pts[((p.pts.length:Int) - 1).toNat]? =some z:=hz
    rwa [show ((p.pts.length:Int) - 1).toNat=p.pts.length - 1 by omega] at hz
   have hlz:=zpy hz
   have eg:vT p x tol=if (qJ z x tol).2≠0 then (p,(qJ z x tol).2) else (⟨qj p.pts (qJ z x tol).1,p.cl⟩,0):=by
    unfold vT;rw [if_neg v5,hlz]
   refine zb.t (p_seg z x tol (pok z (List.mem_of_getElem? hz)) hf) ?_;refine Ob.mk (by kernel_rfl) ?_;have sl:=zq7 z x tol;refine Br.mk (fun k=>?_) (fun k=>?_)
   ·have k:¬(qJ z x tol).2=0:=k;refine zbx ?_;rw [if_pos k] at eg;rw [eg,if_pos k] at e;have:=zm0 hx (by rw [e];exact k);rw [e] at this;rw [eQ,this,if_pos k]
   have k:(qJ z x tol).2=0:=Decidable.not_not.1 k;rw [zcJ k] at eg;rw [eg,zcJ rfl] at e
   refine zb.give [0,1] 1 [.eloc 0 2 (cl.length:Int) 0,.sl ptE (qJ z x tol).1] [(0,.garr 163 2 (ztA cl 1 (pr (p.cl=true)))),(1,.arr 46 ptE 2 p.pts)]
    [(0,.garr 163 2 (ztA cl 2 (pr (p.cl=true)))),(2,.arr 46 ptE 2 (qj p.pts (qJ z x tol).1))] (.tup []) (zsZ cl p.pts (qJ z x tol).1 (p.cl=true) oM sl oM)
    (.cons (zaB (congrArg (fun n=>SV.eloc 0 2 n 0) hN)) (.cons .refl .nil)) rfl rfl rfl ⟨⟨_,rfl,congrArg (fun q=>some (Mem.garr 163 2 q)) (zjF [0,1] _ cl 1 _ _).symm,zpt rfl cl _ _⟩,⟨_,rfl,rfl,trivial⟩,trivial⟩ rfl ⟨⟨rfl,zpu rfl cl _ _⟩,⟨rfl,trivial⟩,trivial⟩ ?_
   refine Ar.o ?_
   refine ⟨(i+1,some (cl,⟨qj p.pts (qJ z x tol).1,p.cl⟩)),⟨oM,oM,e,oM,?_,k5⟩,
    k9 [(0,some 0),(1,some 3)] ⟨⟨_,congrArg (fun q=>some (Mem.garr 163 2 q)) (zjF [0,1] 3 cl 2 _ _),yG rfl⟩,rfl,trivial⟩,by show l.length - (i+1) < l.length - i;omega⟩
   have:=zfx (qJ z x tol).1 p.pts;show (qj p.pts (qJ z x tol).1).length<=_;omega
  ·have v5:x.v=5:=Decidable.not_not.1 v5;have eg:vT p x tol=(⟨je p.pts,true⟩,0):=by unfold vT;rw [if_pos v5]
   rw [eg,zcJ rfl] at e;refine Ob.mk hrow ?_;intro y hy;obtain rfl:=zh2 hN hy;have hrow2:∀w:List SV,0<=((ztA cl 1 (pr (p.cl=true))).length:Int) - 1/\((ztA cl 1 (pr (p.cl=true))).length:Int) - 1 < ((ztA cl 1 (pr (p.cl=true))).set (((ztA cl 1 (pr (p.cl=true))).length:Int) - 1).toNat w).length:=fun w=>by rw [List.length_set];omega
   refine Ob.mk (hrow2 _) ?_;intro y hy;obtain rfl:=zaW hN hy;intro hl8
   have fin:∀{σ:St} (q:List Pt),je p.pts=q->Sub σ ⟨[(1,i64 tol),(6,.own 0),(27,.sl sgE l),(28,i64 (l.length:Int)),(29,i64 ((i+1:Nat):Int))],[(0,.garr 163 2 (ztA cl 1 (pr ((⟨je p.pts,true⟩:Pl).cl=true)))),(1,.arr 46 ptE 2 q)],2,128,0⟩->
     ∃x',(match x' with
      | (i,none)=>i=0
      | (i,some (cl,p))=>0 < i/\i<=l.length/\zty (l.take i) tol=(cl++[p],0)/\cl.length < i/\p.pts.length<=1+64*i/\∀q∈cl,q.pts.length<=20000:Prop)/\
     Sub σ (match x' with
      | (i,none)=>⟨[(1,i64 tol),(6,.val (.slice none 0 0)),(27,.sl sgE l),(28,i64 (l.length:Int)),(29,i64 (i:Int))],[],0,128,0⟩
      | (i,some (cl,p))=>⟨[(1,i64 tol),(6,.own 0),(27,.sl sgE l),(28,i64 (l.length:Int)),(29,i64 (i:Int))],[(0,.garr 163 2 (ztA cl 1 (pr (p.cl=true)))),(1,.arr 46 ptE 2 p.pts)],2,128,0⟩)/\l.length - x'.1 < l.length - (i,some (cl,p)).1:=fun q hq hs=>by
    refine ⟨(i+1,some (cl,⟨je p.pts,true⟩)),⟨oM,oM,e,oM,?_,k5⟩,?_,by show l.length - (i+1) < l.length - i;omega⟩
    ·have:=zpB p.pts;show (je p.pts).length<=_;omega
    ·subst hq;exact hs
   refine Dr.d ?_;refine Br.mk (fun m=>?_) (fun m=>?_)
   ·have m:(1:Int) < p.pts.length:=m;refine Ob.mk (hrow2 _) ?_;intro y hy;obtain rfl:=zaW hN hy;refine Ar.o ?_;refine Ob.o ?_;refine Ob.o ?_;intro z hz
    have hz:p.pts[p.pts.length - 1]? =some z:=by
     have hz:p.pts[((p.pts.length:Int) - 1).toNat]? =some z:=hz
     rwa [show ((p.pts.length:Int) - 1).toNat=p.pts.length - 1 by omega] at hz
    refine Ob.mk (hrow2 _) ?_;intro y hy;obtain rfl:=zaW hN hy;refine Ob.o ?_;refine Ob.o ?_;intro f hf;have hf:p.pts[0]? =some f:=hf;refine Ob.mk (by kernel_rfl) ?_;refine Br.mk (fun k=>?_) (fun k=>?_)
    ·have k:z=f:=jd.1 k;refine Ob.mk (hrow2 _) ?_;intro y hy;obtain rfl:=zaW hN hy;refine Ar.o ?_;refine Sl.keep (Ob.mk ⟨rfl,oM,oM⟩ ?_);refine Ob.mk (hrow2 _) ?_;intro y hy;obtain rfl:=zaW hN hy;refine Ar.o ?_;refine fin (p.pts.take ((p.pts.length:Int) - 1).toNat) ?_ ?_;rotate_left
     ·exact (zbg 0 (by exact congrArg (fun q=>some (Mem.garr 163 2 q)) (znf hN)) (ys:=ztA cl 3 (pr ((⟨je p.pts,true⟩:Pl).cl=true))) (Rows.app .refl (.cons (.cons .refl (.cons (zH rfl) .nil)) .nil))).trans
       (k9 [(0,some 0),(1,some 3)] ⟨⟨_,rfl,yG rfl⟩,rfl,trivial⟩)
     rw [show ((p.pts.length:Int) - 1).toNat=p.pts.length - 1 by omega];exact zpz oM hz hf k
    ·have k:¬z=f:=fun h=>k (jd.2 h)
     refine Ar.o ?_;refine fin p.pts (zq8 hz hf k) ?_
     exact ((zbg 0 (by exact congrArg (fun q=>some (Mem.garr 163 2 q)) (zcP hN)) (ys:=ztA cl 1 (pr ((⟨je p.pts,true⟩:Pl).cl=true))) (Rows.app .refl (.cons (.cons .refl (.cons (zH rfl) .nil)) .nil))).trans
      (k9 [(0,some 0),(1,some 1)] ⟨⟨_,rfl,yG rfl⟩,rfl,trivial⟩))
   ·have m:¬(1:Int) < p.pts.length:=m;refine Ob.mk (by kernel_rfl) ?_;refine Ar.o ?_;refine fin p.pts (zpA oM) ?_
    exact ((zbg 0 (by exact congrArg (fun q=>some (Mem.garr 163 2 q)) (zcP hN)) (ys:=ztA cl 1 (pr ((⟨je p.pts,true⟩:Pl).cl=true))) (Rows.app .refl (.cons (.cons .refl (.cons (zH rfl) .nil)) .nil))).trans
     (k9 [(0,some 0),(1,some 1)] ⟨⟨_,rfl,yG rfl⟩,rfl,trivial⟩))
 ·have g:¬(i:Int) < l.length:=g;have hi:l.take i=l:=List.take_of_length_le oM;rw [hi] at k2
  have hout:∀q∈cl++[p],q.pts.length<=20000:=fun q hq=>by
   rcases List.mem_append.1 hq with hq | hq
   ·exact k5 q hq
   ·rw [List.mem_singleton.1 hq];omega
  have hlo:(cl++[p]).length=cl.length+1:=by simp
  rw [eQ,k2,zcJ rfl];intro hl12;refine ⟨Nat,fun k=>⟨[(6,.own 0),(13,i64 (uK ((cl++[p]).take k):Int)),(113,.own 0),(114,i64 ((cl++[p]).length:Int)),(115,i64 (k:Int))],[(0,.arr 163 plE 2 (cl++[p]))],1,128,0⟩,fun k=>k<=(cl++[p]).length,fun k=>(cl++[p]).length - k,0,?_,?_,?_⟩
  ·exact Nat.zero_le _
  ·exact ((zhz (sz0:=2) (T0:=163) 1 0 (enc:=ptE) (ys:=p.pts) rfl rfl (xs':=(cl++[p]).map plE) (by rw [yO,List.length_map,hlo]) (fun z hz=>by obtain ⟨w,_,rfl⟩:=List.mem_map.1 hz;rfl)
    (fun i j x' s' hx hs=>by have:=zjG (cl:=cl) (p:=p) (a:=1) [] i j x' s' (by rwa [List.append_nil]) hs;rwa [List.append_nil] at this)).trans (ziU 0 plE (cl++[p]) rfl (fun _ _=>rfl))).trans
    (kr [(0,some 0)] ⟨rfl,rfl,rfl,congrArg (fun n=>some (i64 n)) (by rw [yO,hlo]),rfl,trivial⟩ ⟨rfl,trivial⟩)
  rintro k hk
  have hc:=zl0 hout k hk;refine Br.mk (fun g=>?_) (fun g=>?_)
  ·have g:(k:Int) < (cl++[p]).length:=g;refine Ob.o ?_;refine Ob.o ?_;intro q hq;have hq:(cl++[p])[k]? =some q:=hq;intro hl14;have:=hout q (List.mem_of_getElem? hq);(iterate 2 refine Ar.o ?_);refine ⟨k+1,oM,kr [(0,some 0)] ⟨rfl,congrArg (fun n=>some (i64 n)) (by rw [zgU hq];omega),rfl,rfl,rfl,trivial⟩ ⟨rfl,trivial⟩,by dsimp only;omega⟩
  ·have g:¬(k:Int) < (cl++[p]).length:=g;have hk:(cl++[p]).take k=cl++[p]:=List.take_of_length_le oM;refine Br.mk (fun m=>?_) (fun m=>?_)
   ·have m:(4096:Int) < (uK ((cl++[p]).take k):Int):=m;rw [hk] at m;exact zbx (if_pos (show 4096 < uK (cl++[p]) by omega))
   ·have m:¬(4096:Int) < (uK ((cl++[p]).take k):Int):=m;rw [hk] at m;exact zs0 (if_neg (show ¬4096 < uK (cl++[p]) by omega))
theorem zt9{l:List Pt}(h:yh l):je (je l)=je l:=by
 have:=zt6 h;generalize je l=m at*;unfold je;rw [if_neg (fun k=>this k.1 k.2)]
def ztF(l:List Sg)(tol:Int):Nat->Nat->List Pt->Pl×Nat×Int
 | 0,i,q=>(⟨q,false⟩,i,0)
 | k+1,i,q=>match l[i]? with
  | none=>(⟨q,false⟩,i,0)
  | some s=>if s.v=1 then (⟨q,false⟩,i,0) else if s.v=5 then (⟨je q,true⟩,i+1,0)
   else if (qJ (zdK q) s tol).2≠0 then (⟨[],false⟩,0,(qJ (zdK q) s tol).2) else ztF l tol k (i+1) (qj q (qJ (zdK q) s tol).1)
theorem ztL{l:List Sg}{tol:Int}{i:Nat}{q:List Pt}{s:Sg}(h:l[i]? =some s):ztF l tol (l.length - i) i q=
  if s.v=1 then (⟨q,false⟩,i,0) else if s.v=5 then (⟨je q,true⟩,i+1,0)
   else if (qJ (zdK q) s tol).2≠0 then (⟨[],false⟩,0,(qJ (zdK q) s tol).2) else ztF l tol (l.length - (i+1)) (i+1) (qj q (qJ (zdK q) s tol).1):=by
 have hi:=(List.getElem?_eq_some_iff.1 h).1;rw [show l.length - i=(l.length - (i+1))+1 by omega,ztF,h]
theorem ztQ{l:List Sg}{tol:Int}{i:Nat}{q:List Pt}(h:l.length<=i):ztF l tol (l.length - i) i q=(⟨q,false⟩,i,0):=by
 rw [show l.length - i=0 by omega];rfl
def SubOK(l:List Sg)(tol:Int)(a:Nat)(out:List Pl)(r:Pl×Nat×Int):Prop:=
 (r.2.2≠0/\zty l tol=([],r.2.2))∨(r.2.2=0/\a < r.2.1/\r.2.1<=l.length/\(∀y,l[r.2.1]? =some y->y.v=1)/\zty (l.take r.2.1) tol=(out++[r.1],0)/\r.1.pts.length<=1+64*l.length)
theorem ztM{l:List Sg}{tol:Int}{a:Nat}{out:List Pl}(ho:oks 5 l):∀(k i:Nat) (q:List Pt),k=l.length - i->a < i->i<=l.length->zty (l.take i) tol=(out++[⟨q,false⟩],0)->q.length<=1+64*i->SubOK l tol a out (ztF l tol (l.length - i) i q)
 | 0,i,q,hk,h1,h2,h3,h4=>by
  rw [ztQ oM];exact .inr ⟨rfl,h1,h2,fun y hy=>by have:=(List.getElem?_eq_some_iff.1 hy).1;dsimp only at this;omega,h3,by show q.length<=_;omega⟩
 | k+1,i,q,hk,h1,h2,h3,h4=>by
  have hi:i < l.length:=oM;have hx:l[i]? =some l[i]:=List.getElem?_eq_getElem hi;have e:=vU (tol:=tol) hx;rw [h3] at e;rw [ztL hx];generalize l[i]=s at*
  by_cases v1:s.v=1
  ·rw [if_pos v1];exact .inr ⟨rfl,h1,h2,fun y hy=>by have hy:l[i]? =some y:=hy;rw [hx] at hy;rw [← Option.some.inj hy];exact v1,h3,by show q.length<=_;omega⟩
  rw [if_neg v1];rw [zpC v1] at e
  by_cases v5:s.v=5
  ·rw [if_pos v5];have eg:vT ⟨q,false⟩ s tol=(⟨je q,true⟩,0):=by unfold vT;rw [if_pos v5]
   rw [eg,zcJ rfl] at e;refine .inr ⟨rfl,by show a < i+1;omega,by show i+1<=_;omega,fun y hy=>?_,e,?_⟩
   ·have he:=zo5 ho hy;have hl:zlS 5 l (i+1)=s.v:=zkQ hx;dsimp only at he;rw [hl,v5] at he;exact (yz.1 he).2.1.resolve_right fun h=>h.1 rfl
   ·have:=zpB q;show (je q).length<=_;omega
  rw [if_neg v5];have eg:vT ⟨q,false⟩ s tol=if (qJ (zdK q) s tol).2≠0 then (⟨q,false⟩,(qJ (zdK q) s tol).2) else (⟨qj q (qJ (zdK q) s tol).1,false⟩,0):=by unfold vT;rw [if_neg v5]
  by_cases k0:(qJ (zdK q) s tol).2=0
  ·rw [zcJ k0] at eg ⊢;rw [eg,zcJ rfl] at e;have h5:=zfx (qJ (zdK q) s tol).1 q;have h6:=zq7 (zdK q) s tol;exact ztM ho k (i+1) _ oM oM oM e oM
  ·rw [if_pos k0] at eg ⊢;rw [eg,if_pos k0] at e;have:=zm0 hx (by rw [e];exact k0);rw [e] at this;exact .inl ⟨k0,this⟩
theorem zuF{p:Pt}{s:Sg}{tol:Int}(h:(qJ p s tol).2=0):(qJ p s tol).1≠[]:=by
 have up:∀(f:Int->Pt) (n:Nat),1<=n->zcH f n≠[]:=fun f n hn e=>by
  have:=zaV f n;rw [e] at this;simp at this;omega
 unfold qJ at h ⊢
 by_cases h3:s.v=3
 ·rw [if_pos h3] at h ⊢;have k:(jI p s.a s.b tol).2=0:=Decidable.not_not.1 fun k=>k (by rw [znb k] at h;exact h)
  have ok:=(ug (show (qw _ tol _).2=0 from k)).1;have ok:1<=(jI p s.a s.b tol).1/\(jI p s.a s.b tol).1<=64:=ok;rw [zpq k];dsimp only;exact up _ _ (show 1<=(jI p s.a s.b tol).1.toNat by omega)
 ·rw [if_neg h3] at h ⊢
  by_cases h4:s.v=4
  ·rw [if_pos h4] at h ⊢;have k:(jJ p s.a s.b s.c tol).2=0:=Decidable.not_not.1 fun k=>k (by rw [znd k] at h;exact h)
   have ok:=(ug (show (qw _ tol _).2=0 from k)).1;have ok:1<=(jJ p s.a s.b s.c tol).1/\(jJ p s.a s.b s.c tol).1<=64:=ok;rw [zps k];dsimp only;exact up _ _ (show 1<=(jJ p s.a s.b s.c tol).1.toNat by omega)
  ·rw [if_neg h4];simp
def subE(r:Pl×Nat×Int):SV:=.tup [.agg (plE r.1),i64 (r.2.1:Int),i64 r.2.2]
theorem zt1{q more:List Pt}{z:Pt}(h:more[more.length - 1]? =some z):zdK (qj q more)=z:=by
 have hne:more≠[]:=fun e=>by rw [e] at h;simp at h
 unfold zdK;rw [List.getLastD_eq_getLast?,ztO more q hne,List.getLast?_eq_getElem?,h];rfl
theorem zua(l:List Sg)(a:Nat)(x:Sg)(tol:Int)(hx:l[a]? =some x)(hlen:l.length<=300):
  ze Tryz.prog 131 [.sl sgE l,i64 (a:Int),i64 tol] [] (subE (ztF l tol (l.length - (a+1)) (a+1) [x.a])) []:=by
 have ha:=(List.getElem?_eq_some_iff.1 hx).1;refine zt0 1 tok mix Tryz.func131 rfl rfl rfl ?_;refine Ob.o4 ?_;intro x' hx';have ex:x'=x:=Option.some.inj ((show l[a]? =some x' from hx').symm.trans hx);rw [ex];refine ⟨Pt,ptE,[x.a],rfl,Ob.o0 ?_⟩;refine Ar.o ?_;generalize hR:ztF l tol (l.length - (a+1)) (a+1) [x.a]=R
 refine ⟨Nat×List Pt,fun s=>⟨[(0,.sl sgE l),(2,i64 tol),(6,.loc 0 0),(9,.loc 1 0),(10,.loc 2 0),(11,i64 (s.1:Int))],
   [(0,.box 163 [.val (.slice none 0 0),.val (.bool false)]),(1,.box 46 (ptE (zdK s.2))),(2,.box 163 [.own 3,.val (.bool false)]),(3,.arr 46 ptE 2 s.2)],4,102,0⟩,
  fun s=>a < s.1/\s.1<=l.length/\ztF l tol (l.length - s.1) s.1 s.2=R/\yh s.2/\s.2≠[]/\s.2.length<=1+64*s.1,fun s=>l.length - s.1,(a+1,[x.a]),?_,?_,?_⟩
 ·exact ⟨by dsimp only;omega,by dsimp only;omega,hR,⟨fun _ h=>(by cases h),trivial⟩,by simp,by show 1<=_;omega⟩
 ·exact kr [(0,some 0),(1,some 1),(2,some 3),(3,some 2)] ⟨rfl,rfl,rfl,rfl,rfl,congrArg (fun n=>some (i64 n)) (show ((a+1:Nat):Int)=(a:Int)+1 by omega).symm,trivial⟩ ⟨rfl,rfl,rfl,rfl,trivial⟩
 rintro ⟨i,q⟩ ⟨h1,h2,h3,h4,h5,h6⟩
 dsimp only at h1 h2 h3 h4 h5 h6;have hq1:0 < q.length:=Nat.pos_of_ne_zero fun h=>h5 (List.eq_nil_of_length_eq_zero h)
 have out:(l.length<=i∨∃s,l[i]? =some s/\s.v=1)->R=(⟨q,false⟩,i,0):=fun h=>by
  rw [← h3]
  rcases h with h | ⟨s,hs,hv⟩
  ·exact ztQ h
  ·rw [ztL hs,if_pos hv]
 have fin:R=(⟨q,false⟩,i,0)->LE (.tup [.agg [.sl ptE q,bl false],i64 (i:Int),i64 0]) (subE R):=fun h=>by
  rw [h];exact zaC (.cons (zuI (.cons .refl (.cons (zc (show ¬(false=true) by decide)) .nil))) (.cons .refl (.cons .refl .nil)))
 intro hl1;refine Br.mk (fun g=>?_) (fun g=>?_);rotate_left
 ·have g:¬(i:Int) < l.length:=g;exact fin (out (.inl oM))
 have g:(i:Int) < l.length:=g;refine Ob.o ?_;intro s hs;have hs:l[i]? =some s:=hs;refine Br.mk (fun v1=>?_) (fun v1=>?_);rotate_left
 ·have v1:s.v=1:=Decidable.not_not.1 v1;exact fin (out (.inr ⟨s,hs,v1⟩))
 have v1:¬s.v=1:=v1;rw [ztL hs,if_neg v1] at h3;refine Ob.o ?_;intro s' hs';have es:s'=s:=Option.some.inj ((show l[i]? =some s' from hs').symm.trans hs);rw [es];refine Br.mk (fun v5=>?_) (fun v5=>?_)
 ·have v5:s.v=5:=v5;rw [if_pos v5] at h3
  refine ⟨List Pt,fun q'=>⟨[(6,.loc 0 0),(10,.loc 2 0),(11,i64 (i:Int))],
    [(0,.box 163 [.val (.slice none 0 0),.val (.bool false)]),(2,.box 163 [.own 3,.val (.bool true)]),(3,.arr 46 ptE 2 q')],4,102,0⟩,
   fun q'=>je q'=je q/\yh q'/\q'.length<=q.length,fun q'=>q'.length,q,?_,?_,?_⟩
  ·exact ⟨rfl,h4,Nat.le_refl _⟩
  ·exact zi [(0,some 0),(2,some 2),(3,some 3)]
  rintro q' ⟨t1,t2,t3⟩
  have fin2:je q'=q'->LE (.tup [.agg [.sl ptE q',bl true],i64 ((i:Int)+1),i64 0]) (subE R):=fun h=>by
   rw [← h3,← t1,h];exact zaC (.cons (zuI (.cons .refl (.cons (zH rfl) .nil))) (.cons (zm (show (i:Int)+1=((i+1:Nat):Int) by omega)) (.cons .refl .nil)))
  refine Dr.d ?_;intro hl4;refine Br.mk (fun m=>?_) (fun m=>?_)
  ·have m:(1:Int) < q'.length:=m;intro hl5;refine Ar.o ?_;refine Ob.o ?_;refine Ob.o ?_;intro z hz
   have hz:q'[q'.length - 1]? =some z:=by
    have hz:q'[((q'.length:Int) - 1).toNat]? =some z:=hz
    rwa [show ((q'.length:Int) - 1).toNat=q'.length - 1 by omega] at hz
   refine Ob.o ?_;refine Ob.o ?_;intro f hf;have hf:q'[0]? =some f:=hf;refine Ob.mk (by kernel_rfl) ?_;refine Br.mk (fun k=>?_) (fun k=>?_)
   ·have k:z=f:=jd.1 k;have et:=zpz (show 1 < q'.length by omega) hz hf k;intro hl7;refine Ar.o ?_;refine Sl.keep (Ob.mk ⟨rfl,oM,oM⟩ ?_);refine ⟨q'.take (q'.length - 1),⟨?_,?_,?_⟩,k9 [(0,some 0),(2,some 2),(3,some 4)] ⟨rfl,rfl,congrArg (fun q=>some (Mem.arr 46 ptE 2 q)) (by rw [show ((q'.length:Int) - 1).toNat=q'.length - 1 by omega]),trivial⟩,?_⟩
    ·rw [← et,zt9 t2,t1]
    ·rw [← et];exact zkO t2
    ·rw [List.length_take];omega
    ·show (q'.take (q'.length - 1)).length < q'.length;rw [List.length_take];omega
   ·have k:¬z=f:=fun h=>k (jd.2 h)
    refine Ar.o ?_;exact fin2 (zq8 hz hf k)
  ·have m:¬(1:Int) < q'.length:=m;refine Ob.mk (by kernel_rfl) ?_;refine Ar.o ?_;exact fin2 (zpA oM)
 have v5:¬s.v=5:=v5;rw [if_neg v5] at h3;refine Dr.d ?_;refine Ob.o ?_;intro s' hs';have es:s'=s:=Option.some.inj ((show l[i]? =some s' from hs').symm.trans hs);rw [es];refine zb.t (r_seg (zdK q) s tol) ?_;refine Ob.mk (by kernel_rfl) ?_;refine Br.mk (fun k=>?_) (fun k=>?_)
 ·have k:¬(qJ (zdK q) s tol).2=0:=k;rw [if_pos k] at h3;rw [← h3];exact zaC (.cons (zuI (.cons zI (.cons (zc (show ¬(false=true) by decide)) .nil))) (.cons .refl (.cons .refl .nil)))
 have k:(qJ (zdK q) s tol).2=0:=Decidable.not_not.1 k;rw [zcJ k] at h3;have sl:=zq7 (zdK q) s tol;have sn:=zuF k;have sn1:0 < (qJ (zdK q) s tol).1.length:=Nat.pos_of_ne_zero fun h=>sn (List.eq_nil_of_length_eq_zero h)
 have pl:=zfx (qJ (zdK q) s tol).1 q
 refine zb.give [3] 1 [.own 0,.sl ptE (qJ (zdK q) s tol).1] [(0,.arr 46 ptE 2 q)] [(1,.arr 46 ptE 2 (qj q (qJ (zdK q) s tol).1))] (.own 1) (zuE q (qJ (zdK q) s tol).1 oM sl)
  LEs.refl rfl rfl rfl ⟨⟨_,rfl,rfl,trivial⟩,trivial⟩ rfl ⟨⟨rfl,trivial⟩,trivial⟩ ?_
 intro hl9;refine Ar.o ?_;refine Ob.o ?_;intro z hz
 have hz:(qJ (zdK q) s tol).1[(qJ (zdK q) s tol).1.length - 1]? =some z:=by
  have hz:(qJ (zdK q) s tol).1[(((qJ (zdK q) s tol).1.length:Int) - 1).toNat]? =some z:=hz
  rwa [show (((qJ (zdK q) s tol).1.length:Int) - 1).toNat=(qJ (zdK q) s tol).1.length - 1 by omega] at hz
 have elp:=zt1 (q:=q) hz;refine Ar.o ?_
 refine ⟨(i+1,qj q (qJ (zdK q) s tol).1),⟨by dsimp only;omega,by dsimp only;omega,h3,zfp _ h4,zlR _ h5,by dsimp only;omega⟩,
  k9 [(0,some 0),(1,some 1),(2,some 2),(3,some 4)] ⟨rfl,?_,rfl,rfl,trivial⟩,by dsimp only;omega⟩
 exact congrArg (fun p=>some (Mem.box 46 (ptE p))) elp.symm
theorem zuG(l:List Sg)(tol:Int):ze Tryz.prog 78 [.sl sgE l,i64 tol] [] (plsE (kZ l tol)) []:=by
 refine zd tok mix Tryz.func78 rfl rfl rfl ?_;refine zb.t (zjj l) ?_;refine Br.mk (fun a0=>zbx (by unfold kZ;rw [if_pos a0])) (fun a0=>?_);have hv:=Decidable.not_not.1 a0;have hlen:=zmR hv;have ho:=(zbt.1 hv).2;refine zb.t (zuk tol) ?_;refine Br.mk (fun a1=>zbx (by unfold kZ;rw [zaR hv,if_pos a1])) (fun a1=>?_);have ht:=Decidable.not_not.1 a1;have eQ:kZ l tol=if (zty l tol).2≠0 then ([],(zty l tol).2) else if 4096 < uK (zty l tol).1 then ([],5) else ((zty l tol).1,0):=by unfold kZ;rw [zaR hv,zaR ht]
 refine ⟨Pl,plE,[],rfl,Ob.o2 ?_⟩
 refine ⟨Nat×List Pl,fun s=>⟨[(0,.sl sgE l),(1,i64 tol),(6,.own 0),(7,i64 (uK s.2:Int)),(8,i64 (s.1:Int))],[(0,.arr 163 plE 2 s.2)],1,47,0⟩,
  fun s=>s.1<=l.length/\zty (l.take s.1) tol=(s.2,0)/\(∀y,l[s.1]? =some y->y.v=1)/\s.2.length<=s.1/\∀q∈s.2,q.pts.length<=20000,fun s=>l.length - s.1,(0,[]),?_,?_,?_⟩
 ·exact ⟨Nat.zero_le _,rfl,fun y hy=>zjo hv y hy,Nat.zero_le _,fun q hq=>by cases hq⟩
 ·exact zi [(0,some 0)]
 rintro ⟨i,out⟩ ⟨h1,h2,h3,h4,h5⟩
 dsimp only at h1 h2 h3 h4 h5;have hc:=zl0 h5 out.length (Nat.le_refl _);rw [List.take_length] at hc;intro hl3;refine Br.mk (fun g=>?_) (fun g=>?_)
 ·have g:(i:Int) < l.length:=g;obtain ⟨x,hx⟩:∃x,l[i]? =some x:=⟨_,List.getElem?_eq_getElem oM⟩;have v1:=h3 x hx;have e:=vU (tol:=tol) hx;rw [h2,zec,if_pos v1] at e;have sp:=ztM (a:=i) ho (l.length - (i+1)) (i+1) [x.a] rfl oM oM e (by show 1<=_;omega);refine zb.t (zua l i x tol hx oM) ?_;generalize ztF l tol (l.length - (i+1)) (i+1) [x.a]=R at*;obtain ⟨p,j,er⟩:=R;refine Br.mk (fun k=>?_) (fun k=>?_)
  ·have k:¬er=0:=k
   rcases sp with ⟨_,sp⟩ | ⟨sp,_⟩
   ·refine zbx ?_;dsimp only at sp;rw [eQ,sp,if_pos k]
   ·exact absurd sp k
  have k:er=0:=Decidable.not_not.1 k
  rcases sp with ⟨sp,_⟩ | ⟨_,s1,s2,s3,s4,s5⟩
  ·exact absurd k sp
  dsimp only at s1 s2 s3 s4 s5;intro hl6;have hl6:p.pts.length<=9223372036854775807:=hl6;refine Ar.fit (by show _<=(uK out:Int)+(p.pts.length:Int)/\(uK out:Int)+(p.pts.length:Int)<=_;omega) ?_;refine ⟨Pl,plE,[p],rfl,Ob.o0 ?_⟩;refine ⟨[p],rfl,Ob.mk ⟨(by show _*(32:Int)<=_;simp only [List.length_cons,List.length_nil];omega),(by simp only [List.length_cons,List.length_nil];omega),dC,fun _ _=>rfl⟩ ?_⟩
  refine ⟨(j,out++[p]),⟨s2,s4,s3,by simp only [List.length_append,List.length_cons,List.length_nil];omega,fun q hq=>?_⟩,
   kr [(0,some 3)] ⟨rfl,rfl,rfl,congrArg (fun n=>some (i64 n)) (show (uK out:Int)+(p.pts.length:Int)=(uK (out++[p]):Int) by unfold uK;simp),rfl,trivial⟩ ⟨rfl,trivial⟩,by dsimp only;omega⟩
  rcases List.mem_append.1 hq with hq | hq
  ·exact h5 q hq
  ·rw [List.mem_singleton.1 hq];omega
 ·have g:¬(i:Int) < l.length:=g;rw [List.take_of_length_le oM] at h2;rw [eQ,h2,zcJ rfl];refine Br.mk (fun m=>?_) (fun m=>?_)
  ·have m:(4096:Int) < (uK out:Int):=m;exact zbx (if_pos (show 4096 < uK out by omega))
  ·have m:¬(4096:Int) < (uK out:Int):=m;exact zs0 (if_neg (show ¬4096 < uK out by omega))
def rgE(c:List (List Pt)×Int):SV:=.tup [.sl qu c.1,i64 c.2]
theorem zpD{c:List (List Pt)×Int}{e:Int}(h:c=([],e)):LE (.tup [.val (.slice none 0 0),i64 e]) (rgE c):=by
 rw [h];exact zS zI .refl
theorem ztE(t:AF)(p:Pt)(ht:t.le 100000):ze Tryz.prog 41 [.agg (afE t),.agg (ptE p)] [] (.tup [.agg (ptE (qB t p).1),i64 (qB t p).2]) []:=by
 obtain ⟨ha,hb,hc,hd,he,hf⟩:=ht;refine zd tok mix Tryz.func41 rfl rfl rfl ?_;have fin:∀(q:Pt) (n:Int),(qB t p)=(q,n)->LE (.tup [.agg (ptE q),i64 n]) (.tup [.agg (ptE (qB t p).1),i64 (qB t p).2]):=fun q n h=>by rw [h];exact .refl
 refine zb.t (zbq t ⟨oM,oM,oM,oM,oM,oM⟩) ?_;refine Br.mk (fun h1=>?_) (fun h1=>?_)
 ·exact fin zp 5 (by rw [qB,if_pos h1])
 refine zb.t (yy p) ?_;refine Br.mk (fun h2=>?_) (fun h2=>?_)
 ·exact fin zp 6 (by rw [qB,if_neg h1,if_pos h2])
 have hp:zP p:=Classical.byContradiction h2;have hx:R64 p.x:=by unfold R64;unfold zP at hp;omega
 have hy:R64 p.y:=by unfold R64;unfold zP at hp;omega
 have lx:=zfg p.x;have ly:=zfg p.y;have zx:=ye hx;have zy:=ye hy;refine Dr.k ?_;refine zb.t (qg p.x hx) ?_;refine zb.t (qg p.y hy) ?_;refine zb.t (ztD t (ofQ (p.x:Rat)) (ofQ (p.y:Rat)) ⟨oM,oM,oM,oM,oM,oM⟩ (by rw [zo];omega) (by rw [zo];omega)) ?_;rw [zN,zN];have lX:=kK t.a (ofQ (p.x:Rat)) t.c (ofQ (p.y:Rat)) t.e (n:=100000) ha (by rw [zo];omega) hc (by rw [zo];omega) he;have lY:=kK t.b (ofQ (p.x:Rat)) t.d (ofQ (p.y:Rat)) t.f (n:=100000) hb (by rw [zo];omega) hd (by rw [zo];omega) hf;rw [zN,zN] at lX lY
 have lh:qA (Rat.divInt 1 2)<=1:=by decide +kernel
 have mX:=zaK (yY t p.x p.y) (Rat.divInt 1 2);have mY:=zaK (yZ t p.x p.y) (Rat.divInt 1 2);have lX2:qA (yY t p.x p.y)<=500007:=lX.2;have lY2:qA (yZ t p.x p.y)<=500007:=lY.2
 have fl:∀q:Rat,ztz q.floor<=qA q:=fun q=>Nat.le_trans (zbk (by
  rw [Rat.floor_def]
  exact Int.natAbs_ediv_le_natAbs _ _)) (kj q)
 have fX:=fl (yY t p.x p.y+Rat.divInt 1 2);have fY:=fl (yZ t p.x p.y+Rat.divInt 1 2);refine zb.t (ztV 1 2 dC dC dC) ?_;refine zb.t (zhM (ofQ (yY t p.x p.y)) (ofQ (Rat.divInt 1 2)) (by rw [zo];omega) (by rw [zo];omega)) ?_;rw [zN,zN];refine zb.t (ztW (ofQ (yY t p.x p.y+Rat.divInt 1 2)) (by rw [zo];omega)) ?_;rw [zN];refine zb.t (ztU (ofZ (yY t p.x p.y+Rat.divInt 1 2).floor) (by rw [zB];omega)) ?_;refine zb.t (zhM (ofQ (yZ t p.x p.y)) (ofQ (Rat.divInt 1 2)) (by rw [zo];omega) (by rw [zo];omega)) ?_;rw [zN,zN]
 refine zb.t (ztW (ofQ (yZ t p.x p.y+Rat.divInt 1 2)) (by rw [zo];omega)) ?_;rw [zN];refine zb.t (ztU (ofZ (yZ t p.x p.y+Rat.divInt 1 2).floor) (by rw [zB];omega)) ?_;rw [zJ,zJ];obtain ⟨X,hX⟩:∃X,(yY t p.x p.y+Rat.divInt 1 2).floor=X:=⟨_,rfl⟩;obtain ⟨Y,hY⟩:∃Y,(yZ t p.x p.y+Rat.divInt 1 2).floor=Y:=⟨_,rfl⟩;have hg:goP t p=⟨X,Y⟩:=by unfold goP;rw [hX,hY]
 rw [hX,hY];have out:¬zP ⟨X,Y⟩->qB t p=(zp,6):=fun h=>by rw [qB,if_neg h1,if_neg h2,if_neg (by rw [hg];exact h)]
 have inn:zP ⟨X,Y⟩->qB t p=(⟨X,Y⟩,0):=fun h=>by rw [qB,if_neg h1,if_neg h2,if_pos (by rw [hg];exact h),hg]
 have big:zP ⟨X,Y⟩->(-9223372036854775808<=X/\X<=9223372036854775807)/\(-9223372036854775808<=Y/\Y<=9223372036854775807):=fun h=>by unfold zP at h;dsimp only at h;omega
 refine Br.mk (fun h3=>?_) (fun h3=>?_)
 ·exact fin zp 6 (out fun h=>h3 (big h).1)
 have h3:=Classical.byContradiction h3;refine Br.mk (fun h4=>?_) (fun h4=>?_)
 ·exact fin zp 6 (out fun h=>h4 (big h).2)
 have h4:=Classical.byContradiction h4;refine zb.t (yy ⟨vm X,vm Y⟩) ?_;rw [vm,if_pos h3,vm,if_pos h4];refine Br.mk (fun h5=>?_) (fun h5=>?_)
 ·exact fin zp 6 (out h5)
 ·exact fin ⟨X,Y⟩ 0 (inn (Classical.byContradiction h5))
theorem zub(t:AF){s:Sg}(hf:zdV s):vr t s=zuh (fun p=>(qB t p).1) s:=by
 unfold vr;obtain ⟨f1,f2,f3⟩:=hf;have hr:=zjk s.v;have k:nm s.v<=0∨nm s.v=1∨nm s.v=2∨nm s.v=3:=oM;unfold ky zuh zgH part
 rcases k with k | k | k | k
 ·rw [show (nm s.v).toNat=0 by omega,f1.2 oM,f2.2 oM,f3.2 oM];rfl
 ·rw [show (nm s.v).toNat=1 by omega,f2.2 oM,f3.2 oM];rfl
 ·rw [show (nm s.v).toNat=2 by omega,f3.2 oM];rfl
 ·rw [show (nm s.v).toNat=3 by omega];rfl
theorem ztG{l:List Sg}{t:AF}(h1:kY l){i:Nat}{x:Sg}{p:Pt}{k:Nat}(h0:qK t (jc (l.take i))=0)(hx:l[i]? =some x)(hk:qK t ((ky x).take k)=0)(hp:(ky x)[k]? =some p)(he:(qB t p).2≠0):trans t l=([],(qB t p).2):=by
 have e2:=(zaS hk hp).2 he
 have e3:qK t (jc l)=(qB t p).2:=by
  have hd:=zhS hx
  have:jc l=jc (l.take i)++(ky x++jc (l.drop (i+1))):=by
   conv=>lhs;rw [← List.take_append_drop i l,hd]
   simp [jc]
  rw [this,jt,h0];simp only [ne_eq,not_true_eq_false,if_false];rw [jt,e2,if_pos he]
 rw [trans,if_neg (fun k=>k h1),e3,if_pos he]
theorem zuc{l:List Sg}{t:AF}{i:Nat}{x:Sg}(h0:qK t (jc (l.take i))=0)(hx:l[i]? =some x)(hk:qK t (ky x)=0):qK t (jc (l.take (i+1)))=0:=by
 rw [zjm hx,jt,h0];simpa using hk
theorem zun(l:List Sg)(t:AF)(ht:t.le 100000):ze Tryz.prog 77 [.sl sgE l,.agg (afE t)] [] (.tup [.sl sgE (trans t l).1,i64 (trans t l).2]) []:=by
 refine zd tok mix Tryz.func77 rfl rfl rfl ?_
 have bad:∀e:Int,trans t l=([],e)->LE (.tup [.val (.slice none 0 0),i64 e]) (.tup [.sl sgE (trans t l).1,i64 (trans t l).2]):=fun e h=>by
  rw [h];exact zS zI .refl
 refine zb.t (zjj l) ?_;refine Br.mk (fun h1=>?_) (fun h1=>?_)
 ·exact bad 10 (by rw [trans,if_pos h1])
 have h:=Decidable.not_not.1 h1;have hvl:=zmR h;refine ⟨Sg,sgE,[],rfl,Ob.o2 ?_⟩
 refine ⟨Nat,fun i=>⟨[(7,i64 i),(6,.own 1),(3,.loc 0 0),(0,.sl sgE l)],[(1,.arr 141 sgE 7 ((l.take i).map (vr t))),(0,.box 35 (afE t))],2,67,0⟩,fun i=>i<=l.length/\qK t (jc (l.take i))=0,fun i=>l.length - i,0,⟨Nat.zero_le _,rfl⟩,
  zi [(0,some 0),(1,some 1)],?_⟩
 rintro i ⟨hil0,hi0⟩
 intro _;refine Br.mk (fun g1=>?_) (fun g1=>?_)
 ·have g1:(i:Int) < l.length:=g1;have hx:=List.getElem?_eq_getElem (show i < l.length by omega);generalize l[i]'oM=x at hx;have hf:=zui h (List.mem_of_getElem? hx);have hnr:=zjk x.v;refine Ob.mk ⟨oM,g1⟩ ?_;intro y hy;have hy:l[i]? =some y:=hy;rw [hx] at hy;cases hy
  refine zb.t (zqN x) ?_;have hml:((l.take i).map (vr t)).length<=256:=by simp;omega
  refine ⟨Nat,fun k=>⟨[(9,i64 k),(8,.loc 2 0),(7,i64 i),(6,.own 1),(3,.loc 0 0),(0,.sl sgE l)],[(2,.box 158 (ptE (part (fun p=>(qB t p).1) k x).a++ptE (part (fun p=>(qB t p).1) k x).b++ptE (part (fun p=>(qB t p).1) k x).c)),(1,.arr 141 sgE 7 ((l.take i).map (vr t))),(0,.box 35 (afE t))],3,67,0⟩,
   fun k=>k<=(nm x.v).toNat/\qK t ((ky x).take k)=0,fun k=>3 - k,0,⟨Nat.zero_le _,rfl⟩,zi [(0,some 0),(1,some 1),(2,some 2)],?_⟩
  rintro k ⟨hk0,hke⟩
  refine Ob.mk ⟨oM,g1⟩ ?_;intro y hy;have hy:l[i]? =some y:=hy;rw [hx] at hy;cases hy
  refine zb.t (zoO x.v) ?_;refine Br.mk (fun g2=>?_) (fun g2=>?_)
  ·have g2:(k:Int) < nm x.v:=g2;have hat:=zuB (s:=x) g2;have e:k=0∨k=1∨k=2:=oM
   rcases e with rfl | rfl | rfl
   ·refine Dr.k ?_;refine zb.t (ztE t x.a ht) ?_;refine Br.mk (fun h5=>bad _ (ztG h hi0 hx hke hat h5)) (fun h5=>?_);have h5:(qB t x.a).2=0:=Classical.byContradiction h5;refine Ar.fit dC ?_;exact ⟨1,⟨by show 1<=_;omega,(zaS hke hat).1 h5⟩,zi [(0,some 0),(1,some 1),(2,some 2)],dC⟩
   ·refine Dr.k ?_;refine zb.t (ztE t x.b ht) ?_;refine Br.mk (fun h5=>bad _ (ztG h hi0 hx hke hat h5)) (fun h5=>?_);have h5:(qB t x.b).2=0:=Classical.byContradiction h5;refine Ar.fit dC ?_;exact ⟨2,⟨by show 2<=_;omega,(zaS hke hat).1 h5⟩,zi [(0,some 0),(1,some 1),(2,some 2)],dC⟩
   ·refine Dr.k ?_;refine zb.t (ztE t x.c ht) ?_;refine Br.mk (fun h5=>bad _ (ztG h hi0 hx hke hat h5)) (fun h5=>?_);have h5:(qB t x.c).2=0:=Classical.byContradiction h5;refine Ar.fit dC ?_;exact ⟨3,⟨by show 3<=_;omega,(zaS hke hat).1 h5⟩,zi [(0,some 0),(1,some 1),(2,some 2)],dC⟩
  ·have g2:¬(k:Int) < nm x.v:=g2;have hku:k=(nm x.v).toNat:=oM
   have hall:(ky x).take k=ky x:=by
    rw [List.take_of_length_le];unfold ky;simp;omega
   rw [hall] at hke;refine Dr.k ?_;refine Ob.mk ⟨oM,g1⟩ ?_;intro y hy;have hy:l[i]? =some y:=hy;rw [hx] at hy;cases hy
   refine ⟨Sg,sgE,[part (fun p=>(qB t p).1) k x],rfl,Ob.o0 ?_⟩;refine ⟨[part (fun p=>(qB t p).1) k x],rfl,Ob.mk ⟨(by show _*(56:Int)<=_;simp only [List.length_cons,List.length_nil];omega),(by simp only [List.length_cons,List.length_nil];omega),dC,fun _ _=>rfl⟩ ?_⟩;refine Ar.o ?_;exact ⟨i+1,⟨by show i+1<=_;omega,zuc hi0 hx hke⟩,k9 [(0,some 0),(1,some 4)] ⟨congrArg (fun q=>some (Mem.arr 141 sgE 7 q)) (by rw [List.take_add_one,hx,hku];simp [zub t hf,zuh]),rfl,trivial⟩,by dsimp only;omega⟩
 ·have hil:i=l.length:=by omega
  rw [hil,List.take_length] at hi0;have htr:trans t l=(l.map (vr t),0):=by rw [trans,if_neg h1,hi0,if_neg (fun k=>k rfl)]
  rw [show (trans t l).1=(l.take i).map (vr t) by rw [htr,hil,List.take_length],show (trans t l).2=0 by rw [htr]];exact zS .refl .refl
instance (t:AF) (n:Nat):Decidable (t.le n):=inferInstanceAs (Decidable (_/\_))
def jf(p:Nat×SV):Nat×SV:=
 match p.2 with
 | .loc k o=>(p.1,.loc k o)
 | _=>(p.1,.junk)
theorem zcQ:∀(L:List (Nat×SV)) (t:Nat) (s:SV),z8 (L.map jf) t=some s->s=.junk∨∃k o,s=.loc k o/\z8 L t=some (.loc k o)
 | [],t,s,h=>by simp [z8] at h
 | (d,s0)::L,t,s,h=>by
  have e:(((d,s0)::L).map jf)=(d,(jf (d,s0)).2)::L.map jf:=by
   simp only [List.map_cons];congr 1;unfold jf;dsimp only;split <;> rfl
  rw [e,zW] at h
  split at h
  ·rename_i hd
   cases h
   unfold jf;dsimp only
   split
   ·rename_i k o;exact .inr ⟨k,o,rfl,by rw [zW,if_pos hd]⟩
   ·exact .inl rfl
  ·rename_i hd
   rcases zcQ L t s h with h | ⟨k,o,h1,h2⟩
   ·exact .inl h
   ·exact .inr ⟨k,o,h1,by rw [zW,if_neg hd,h2]⟩
def zpE:SV->Bool
 | .loc _ _=>true
 | _=>false
def zr5(K:St->Prop):Ex->St->Prop
 | .exit _,_=>False
 | .normal,σ=>K σ
 | .ret,σ=>K σ
end Go.Gs
