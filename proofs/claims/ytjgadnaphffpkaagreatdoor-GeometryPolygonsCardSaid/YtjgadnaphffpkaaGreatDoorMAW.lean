/- Points put behind a polyline, the points of a segment, both texts. -/
import Derived.Test.YtjgadnaphffpkaaGreatDoorMA
import Derived.Test.YtjgadnaphffpkaaGreatDoorMAV
import Derived.Test.YtjgadnaphffpkaaGreatDoorMAM
set_option maxRecDepth 100000
set_option maxHeartbeats 8000000
set_option linter.all false
namespace Go.Gs
open Go.Proofs
variable{α:Type _}{A:List α}
theorem zri{z y:α}{n:Nat}(h:(A++[z])[n]? =some y)(hn:n=A.length):y=z:=by
 subst hn;simp at h;exact h.symm
theorem zgh{z w:α}{n:Nat}(hn:n=A.length):(A++[z]).set n w=A++[w]:=by
 subst hn;simp
def jJ(cl:List Pl)(k:Nat)(b:SV):List (List SV):=cl.map plE++[[SV.own k,b]]
theorem zae(cl:List Pl)(k:Nat)(b:SV):(jJ cl k b).length=cl.length+1:=by unfold jJ;simp
theorem zpB(ks:List Nat)(κ:Nat)(cl:List Pl)(k:Nat)(p:Prop)(i:Decidable p):(jJ cl k (.pr p i)).map (zaw.rens ks κ)=jJ cl (rn ks κ k) (.pr p i):=by
 unfold jJ;rw[XI,List.map_map];rfl
theorem zw0{n k:Nat}(h:Nat.blt k n=true)(cl:List Pl)(p:Prop)(i:Decidable p):∀x∈jJ cl k (.pr p i),vE.lows n x=true:=λx hx=>by
 rcases Xo.1 hx with hx | hx
 ·obtain⟨q,_,rfl⟩:=XY.1 hx;rfl
 ·rw[Xr.1 hx];simp only[vE.lows,vE,h]
theorem zw1{n k:Nat}(h:Nat.blt k n=true)(cl:List Pl)(p:Prop)(i:Decidable p):∀x∈jJ cl k (.pr p i),zce.outs n x=true:=λx hx=>by
 rcases Xo.1 hx with hx | hx
 ·obtain⟨q,_,rfl⟩:=XY.1 hx;rfl
 ·rw[Xr.1 hx];simp only[zce.outs,zce,h]
variable{cl:List Pl}
theorem vY{tb:List (Nat×Option Nat)}{a b:Nat}{p:Prop}{i:Decidable p}(h:zaV tb b=some (some a)):
  (jJ cl a (.pr p i)).length=(jJ cl b (.pr p i)).length/\∀(j:Nat) x,(jJ cl b (.pr p i))[j]? =some x->∃x',(jJ cl a (.pr p i))[j]? =some x'/\ren.rens tb x=some x':=by
 refine⟨by rw[zae,zae],λj x hx=>?_⟩;unfold jJ at hx ⊢;rw[XP]at hx
 split at hx
 ·rename_i hi;rw[XA]at hx
  cases hy:cl[j]? with
  | none=>simp[hy]at hx
  | some y=>
   simp[hy]at hx;subst hx;exact⟨plE y,by rw[XD hi,XA,hy];rfl,rfl⟩
 ·rename_i hi
  have h0:j - (cl.map plE).length=0:=by
   have:=(Xc.1 hx).1;simp at this;simp at hi ⊢;omega
  rw[h0]at hx;simp at hx;subst hx;refine⟨[.own a,.pr p i],by rw[Xy oM,h0];rfl,?_⟩;simp only[ren.rens,ren,h]
theorem zgi(q:List Pt)(x:Pt):(yE q x).length<=q.length+1:=by
 unfold yE;split
 ·omega
 ·simp
theorem vq:∀(more q:List Pt),(kz q more).length<=q.length+more.length
 | [],q=>by simp[kz]
 | x::r,q=>by
  have h1:=vq r (yE q x);have h2:=zgi q x;have e:kz q (x::r)=kz (yE q x) r:=rfl;rw[e,Xl];omega
theorem zhl{q more:List Pt}{i:Nat}{x:Pt}(h:more[i]? =some x):kz q (more.take (i+1))=yE (kz q (more.take i)) x:=by
 unfold kz;rw[Xm,h];simp[KP]
variable{q:List Pt}{x:Pt}{z:Pt}
theorem znr(h:q[q.length - 1]? =some z)(e:z=x):yE q x=q:=by
 unfold yE;rw[KN,h,e,if_pos rfl]
theorem zix(h:q[q.length - 1]? =some z)(e:¬z=x):yE q x=q++[x]:=by
 unfold yE;rw[KN,h,if_neg (λk=>e (Xj k))]
theorem zns(h:q.length=0):yE q x=q++[x]:=by
 rw[Xn h];rfl
theorem zBr(cl:List Pl)(q more:List Pt)(B:Prop)[iB:Decidable B](hq:q.length<=100000)(hm:more.length<=64)(hcl:cl.length<=300):
  CG0 171 [.eloc 0 2 (cl.length:Int) 0,.sl ptE more] [(0,.garr 118 2 (jJ cl 1 (pr B))),(1,.arr 35 ptE 2 q)] (.tup [])
   [(0,.garr 118 2 (jJ cl 2 (pr B))),(2,.arr 35 ptE 2 (kz q more))]:=by
 refine uX tok mix Tryz.func171 rfl rfl rfl ?_;intro hl1
 refine⟨Nat,λi=>⟨[(0,.eloc 0 2 (cl.length:Int) 0),(7,.sl ptE more),(8,i64 (more.length:Int)),(9,i64 (i:Int))],
   [(0,.garr 118 2 (jJ cl 2 (pr B))),(2,.arr 35 ptE 2 (kz q (more.take i)))],3,43,2⟩,λi=>i<=more.length,λi=>more.length - i,0,?_,?_,?_⟩
 ·exact Xe _
 ·exact zC [0,1,1] ⟨⟨_,rfl,vY rfl⟩,rfl,trivial⟩
 rintro i hi
 have hlen:=vq (more.take i) q;rw[Xk]at hlen;have hcell:∀{y:List SV} {k:Nat} {b:SV},(jJ cl k b)[(cl.length:Int).toNat]? =some y->y=[.own k,b]:=λh=>zri h (by simp)
 have hcn:(cl.length:Int).toNat=(cl.map plE).length:=by simp
 have hset:∀(k:Nat) (b:SV) (w:List SV),(jJ cl k b).set (cl.length:Int).toNat w=cl.map plE++[w]:=λk b w=>by unfold jJ;exact zgh hcn
 have hrow:0<=(cl.length:Int)/\(cl.length:Int) < (jJ cl 2 (pr B)).length:=by rw[zae];omega
 refine⟨λg=>?_,λg=>?_⟩
 ·have g:(i:Int) < more.length:=g;refine Ob.o ?_;intro x hx;have hx:more[i]? =some x:=hx;have e:=zhl (q:=q) hx;refine Ob.mk hrow ?_;intro y hy;obtain rfl:=hcell hy;intro hl2
  have yes:kz q (more.take (i+1))=(kz q (more.take i))++[x]->∀{σ:St},Sub σ ⟨[(0,.eloc 0 2 (cl.length:Int) 0),(7,.sl ptE more),(8,i64 (more.length:Int)),(9,i64 ((i+1:Nat):Int))],
    [(0,.garr 118 2 (jJ cl 2 (pr B))),(2,.arr 35 ptE 2 ((kz q (more.take i))++[x]))],3,43,2⟩->Sub σ ⟨[(0,.eloc 0 2 (cl.length:Int) 0),(7,.sl ptE more),(8,i64 (more.length:Int)),(9,i64 ((i+1:Nat):Int))],
    [(0,.garr 118 2 (jJ cl 2 (pr B))),(2,.arr 35 ptE 2 (kz q (more.take (i+1))))],3,43,2⟩:=λh σ k=>by rw[h];exact k
  refine Dr.d<|Br.mk (λz=>?_) (λz=>?_)
  ·have z:((kz q (more.take i)).length:Int)=0:=z;refine Ob.mk (by kernel_rfl)<|Dr.d<|Ob.mk hrow ?_;intro y hy;obtain rfl:=hcell hy;refine⟨Pt,ptE,[x],rfl,Ob.o0 ?_⟩;refine⟨[x],rfl,Ob.o3 ?_⟩;refine Ob.mk hrow ?_;intro y hy;obtain rfl:=hcell hy;refine Ob.mk (by kernel_rfl)<|Ar.o ?_;refine⟨i+1,oM,yes (by rw[e,zns oM]) (zC [0,1,5] ⟨⟨_,congrArg (λq=>some (Mem.garr 118 2 q)) (hset _ _ _),vY rfl⟩,rfl,trivial⟩),by dsimp only;omega⟩
  have z:¬((kz q (more.take i)).length:Int)=0:=z;refine Ob.mk hrow ?_;intro y hy;obtain rfl:=hcell hy;refine Ar.o<|Ob.o<|Ob.o ?_;intro t ht
  have ht:(kz q (more.take i))[(kz q (more.take i)).length - 1]? =some t:=by
   have ht:(kz q (more.take i))[(((kz q (more.take i)).length:Int) - 1).toNat]? =some t:=ht
   rwa [show(((kz q (more.take i)).length:Int) - 1).toNat=(kz q (more.take i)).length - 1 by omega]at ht
  refine Ob.mk (by kernel_rfl)<|⟨λk=>?_,λk=>?_⟩
  ·have k:¬t=x:=λh=>k (k8.2 h)
   refine Dr.d<|Ob.mk hrow ?_;intro y hy;obtain rfl:=hcell hy;refine⟨Pt,ptE,[x],rfl,Ob.o0 ?_⟩;refine⟨[x],rfl,Ob.o3 ?_⟩;refine Ob.mk hrow ?_;intro y hy;obtain rfl:=hcell hy;refine Ob.mk (by kernel_rfl)<|Ar.o ?_;refine⟨i+1,oM,yes (by rw[e,zix ht k]) (zC [0,1,5] ⟨⟨_,congrArg (λq=>some (Mem.garr 118 2 q)) (hset _ _ _),vY rfl⟩,rfl,trivial⟩),by dsimp only;omega⟩
  ·have k:t=x:=k8.1 (Xa.1 k);refine Ar.o ?_;refine⟨i+1,oM,zC [0,1,2] ⟨⟨_,rfl,vY rfl⟩,congrArg (λq=>some (Mem.arr 35 ptE 2 q)) (by rw[e,znr ht k]),trivial⟩,by dsimp only;omega⟩
 ·have g:¬(i:Int) < more.length:=g;have e:more.take i=more:=Xg oM;exact⟨_,.refl,congrArg (λl=>[(0,Mem.garr 118 2 (jJ cl 2 (pr B))),(2,Mem.arr 35 ptE 2 (kz q l))]) e,.refl⟩
theorem zBs(q more:List Pt)(hq:q.length<=100000)(hm:more.length<=64):
  CG0 183 [.own 0,.sl ptE more] [(0,.arr 35 ptE 2 q)] (.own 1) [(1,.arr 35 ptE 2 (kz q more))]:=by
 refine uX tok mix Tryz.func183 rfl rfl rfl<|⟨Nat,λi=>⟨[(0,.own 1),(1,.sl ptE more),(5,i64 (i:Int))],[(1,.arr 35 ptE 2 (kz q (more.take i)))],2,36,1⟩,λi=>i<=more.length,λi=>more.length - i,0,?_,?_,?_⟩
 ·exact Xe _
 ·exact zf [0,0]
 rintro i hi
 have hlen:=vq (more.take i) q;rw[Xk]at hlen;intro hl1;refine⟨λg=>?_,λg=>?_⟩
 ·have g:(i:Int) < more.length:=g;obtain⟨x,hx⟩:∃x,more[i]? =some x:=⟨_,Xb oM⟩;have e:=zhl (q:=q) hx;have same:∀{y:Pt},more[(i:Int).toNat]? =some y->y=x:=λh=>Xj ((show more[i]? =some _ from h).symm.trans hx)
  refine Dr.d ?_;intro hl2;refine⟨λz=>?_,λz=>?_⟩
  ·have z:((kz q (more.take i)).length:Int)=0:=z;refine Ob.mk (by kernel_rfl)<|Ob.o ?_;intro y hy;rw[same hy];refine⟨Pt,ptE,[x],rfl,Ob.o0 ?_⟩;refine⟨[x],rfl,Ob.o3 ?_⟩;refine Ar.o ?_;refine⟨i+1,oM,zC [0,3] ⟨congrArg (λq=>some (Mem.arr 35 ptE 2 q)) (by rw[e,zns oM]),trivial⟩,by dsimp only;omega⟩
  have z:¬((kz q (more.take i)).length:Int)=0:=z;intro hl3;refine Ar.o<|Ob.o<|Ob.o ?_;intro t ht
  have ht:(kz q (more.take i))[(kz q (more.take i)).length - 1]? =some t:=by
   have ht:(kz q (more.take i))[(((kz q (more.take i)).length:Int) - 1).toNat]? =some t:=ht
   rwa [show(((kz q (more.take i)).length:Int) - 1).toNat=(kz q (more.take i)).length - 1 by omega]at ht
  refine Ob.o ?_;intro y hy;rw[same hy];refine Ob.mk (by kernel_rfl)<|⟨λk=>?_,λk=>?_⟩
  ·have k:¬t=x:=λh=>k (k8.2 h)
   refine Ob.o ?_;intro y hy;rw[same hy];refine⟨Pt,ptE,[x],rfl,Ob.o0 ?_⟩;refine⟨[x],rfl,Ob.o3 ?_⟩;refine Ar.o ?_;refine⟨i+1,oM,zC [0,3] ⟨congrArg (λq=>some (Mem.arr 35 ptE 2 q)) (by rw[e,zix ht k]),trivial⟩,by dsimp only;omega⟩
  ·have k:t=x:=k8.1 (Xa.1 k);refine Ar.o ?_;refine⟨i+1,oM,zC [0,1] ⟨congrArg (λq=>some (Mem.arr 35 ptE 2 q)) (by rw[e,znr ht k]),trivial⟩,by dsimp only;omega⟩
 ·have g:¬(i:Int) < more.length:=g;have e:more.take i=more:=Xg oM;exact⟨_,.refl,congrArg (λl=>[(1,Mem.arr 35 ptE 2 (kz q l))]) e,.refl⟩
variable{p:Pt}{tol:Int}
theorem zpC{s:Sg}(h:s.v=3):kO p s tol=zcU p s.a s.b tol:=by unfold kO;rw[if_pos h]
theorem zpD{s:Sg}(h3:¬s.v=3)(h:s.v=4):kO p s tol=zcV p s.a s.b s.c tol:=by unfold kO;rw[if_neg h3,if_pos h]
theorem zpE{s:Sg}(h3:¬s.v=3)(h:¬s.v=4):kO p s tol=([s.a],0):=by unfold kO;rw[if_neg h3,if_neg h]
theorem p_seg(p:Pt)(s:Sg)(tol:Int)(hp:zr p)(hs:zr s.a/\zr s.b/\zr s.c):CG0 170 [.agg (ptE p),.agg (sgE s),i64 tol] [] (zpA (kO p s tol)) []:=by
 refine zc Tryz.func170 ?_;refine⟨λh3=>?_,λh3=>?_⟩
 ·have h3:s.v=3:=h3;refine zb.t (zBn p s.a s.b tol hp hs.1 hs.2.1) ?_;rw[zpC h3];exact .refl
 have h3:¬s.v=3:=h3;refine⟨λh4=>?_,λh4=>?_⟩
 ·have h4:s.v=4:=h4;refine zb.t (zBp p s.a s.b s.c tol hp hs.1 hs.2.1 hs.2.2) ?_;rw[zpD h3 h4];exact .refl
 have h4:¬s.v=4:=h4;refine⟨Pt,ptE,[s.a],rfl,Ob.o0 ?_⟩;exact zhj (zpE h3 h4)
theorem r_seg(p:Pt)(s:Sg)(tol:Int):CG0 182 [.agg (ptE p),.agg (sgE s),i64 tol] [] (zpA (kO p s tol)) []:=by
 refine zc Tryz.func182 ?_;refine⟨λh3=>?_,λh3=>?_⟩
 ·have h3:s.v=3:=h3;refine zb.t (zBo p s.a s.b tol) ?_;rw[zpC h3];exact .refl
 have h3:¬s.v=3:=h3;refine⟨λh4=>?_,λh4=>?_⟩
 ·have h4:s.v=4:=h4;refine zb.t (zBq p s.a s.b s.c tol) ?_;rw[zpD h3 h4];exact .refl
 have h4:¬s.v=4:=h4;refine⟨Pt,ptE,[s.a],rfl,Ob.o0 ?_⟩;exact zhj (zpE h3 h4)
variable{b:SV}
theorem znt{k:Nat}{y:List SV}{n:Int}(hn:n=(cl.length:Int))(h:(jJ cl k b)[n.toNat]? =some y):y=[.own k,b]:=by
 subst hn;exact zri h (by simp)
variable{w:List SV}
theorem zgj{k:Nat}{n:Int}(hn:n=(cl.length:Int)):(jJ cl k b).set n.toNat w=cl.map plE++[w]:=by
 subst hn;exact zgh (by simp)
theorem zdH{k:Nat}{y:List SV}{n:Int}(hn:n=(cl.length:Int))(h:((jJ cl k b).set n.toNat w)[n.toNat]? =some y):y=w:=by
 rw[zgj hn]at h;subst hn;exact zri h (by simp)
theorem zud{k:Nat}{w':List SV}{n:Int}(hn:n=(cl.length:Int)):((jJ cl k b).set n.toNat w).set n.toNat w'=cl.map plE++[w']:=by
 rw[zgj hn];subst hn;exact zgh (by simp)
theorem zpF{cl:List Pl}{p:Pl}{a:Nat}(T:List (List SV)):
  ∀(i j:Nat) (x':List SV) (s':SV),((cl++[p]).map plE++T)[i]? =some x'->x'[j]? =some s'->∃(x:List SV) (s:SV),(jJ cl a (pr (p.cl=true))++T)[i]? =some x/\x[j]? =some s/\(s'=s∨(s=.own a/\s'=.sl ptE p.pts)):=by
 intro i j x' s' hx hs;unfold jJ;rw[XI]at hx;generalize cl.map plE=L at*
 rcases Qm i L.length with h | h | h
 ·rw[XL,XD h]at hx;exact⟨x',s',by rw[XL,XD h];exact hx,hs,.inl rfl⟩
 ·subst h;rw[XL,Xy (Xh _)]at hx;simp at hx;subst hx;refine⟨[.own a,pr (p.cl=true)],?_⟩
  match j,hs with
  | 0,hs=>simp[plE]at hs;subst hs;exact⟨.own a,by simp,rfl,.inr ⟨rfl,rfl⟩⟩
  | 1,hs=>simp[plE]at hs;subst hs;exact⟨pr (p.cl=true),by simp,rfl,.inl rfl⟩
  | j+2,hs=>simp[plE]at hs
 ·rw[Xy (by simp;omega)]at hx;refine⟨x',s',?_,hs,.inl rfl⟩;rw[Xy (by simp;omega)];rw[← hx];congr 1;simp
theorem znu(p:Pt)(s:Sg)(tol:Int):(kO p s tol).1.length<=64:=by
 unfold kO
 split
 ·unfold zcU;split
  ·exact Xe _
  ·rename_i h;have ok:=(yS (show(kZ _ tol _).2=0 from Xa.1 h)).1;have ok:1<=(j7 p s.a s.b tol).1/\(j7 p s.a s.b tol).1<=64:=ok;dsimp only;rw[zad];omega
 ·split
  ·unfold zcV;split
   ·exact Xe _
   ·rename_i h;have ok:=(yS (show(kZ _ tol _).2=0 from Xa.1 h)).1;have ok:1<=(j8 p s.a s.b s.c tol).1/\(j8 p s.a s.b s.c tol).1<=64:=ok;dsimp only;rw[zad];omega
  ·show 1<=64;decide
variable{l:List Pt}
theorem zw2(h:l[l.length - 1]? =some z):qP l=z:=by
 unfold qP;rw[QK,KN,h];rfl
variable{i:Nat}
theorem zl0{l:List Pl}{x:Pl}(h:l[i]? =some x):jI (l.take (i+1))=jI (l.take i)+x.pts.length:=by
 unfold jI;rw[Xm,h];simp
theorem znv{l:List Pl}{B:Nat}(h:∀q∈l,q.pts.length<=B):∀i,i<=l.length->jI (l.take i)<=B*i
 | 0,_=>Xe _
 | i+1,hi=>by
  have hx:l[i]? =some l[i]:=Xb oM;rw[zl0 hx];have:=znv h i oM;have:=h _ (KK (show i < l.length by omega));rw[Yn];omega
def znw(c:List Pl×Int):SV:=.tup [.sl plE c.1,i64 c.2]
variable{c:List Pl×Int}
theorem zw3{a:List Pl}{b:Int}(h:c=(a,b)):LE (.tup [.sl plE a,i64 b]) (znw c):=by subst h;exact .refl
theorem jt{b:Int}(h:c=([],b)):LE (.tup [.val (.slice none 0 0),i64 b]) (znw c):=by subst h;exact zI zD .refl
variable{f:Pt}
theorem zgk(h1:1 < q.length)(hz:q[q.length - 1]? =some z)(hf:q[0]? =some f)(e:z=f):qi q=q.take (q.length - 1):=by
 unfold qi;rw[KN,hz,Q4,hf,e,if_pos ⟨h1,rfl⟩,List.dropLast_eq_take]
theorem ziy(hz:q[q.length - 1]? =some z)(hf:q[0]? =some f)(e:¬z=f):qi q=q:=by
 unfold qi;rw[KN,hz,Q4,hf,if_neg (λk=>e (Xj k.2))]
theorem zgl(h:¬1 < q.length):qi q=q:=by
 unfold qi;rw[if_neg (λk=>h k.1)]
theorem zpG(q:List Pt):(qi q).length<=q.length:=by
 unfold qi;split
 ·rw[QD];omega
 ·exact Xh _
theorem zpH{p:Pl}{s:Sg}(h1:¬s.v=1):uf tol (cl++[p],0) s=if (za4 p s tol).2≠0 then([],(za4 p s tol).2) else(cl++[(za4 p s tol).1],0):=by
 rw[zgc,if_neg h1];have e:(cl++[p]).getLastD ⟨[],false⟩=p:=by simp
 rw[e,Ji]
theorem zyW{s:Sg}(h:ze6 s):zr s.a/\zr s.b/\zr s.c:=⟨h.1.1,h.2.1.1,h.2.2.1⟩
theorem zw4(l:List Sg)(tol:Int):CG0 107 [.sl sgE l,i64 tol] [] (znw (z5 l tol)) []:=by
 refine zc Tryz.func107 ?_;refine zb.t (zit l)<|⟨λa0=>jt (by unfold z5;rw[if_pos a0]),λa0=>?_⟩;have hv:=Xa.1 a0;have hlen:=zg9 hv;have ho:=(zbY.1 hv).2;have bad:¬zeO tol->z5 l tol=([],2):=λh=>by unfold z5;rw[kS hv,if_pos h]
 refine⟨λa1=>jt (bad (λh=>by have a1:tol < 1:=a1;unfold zeO at h;omega)),λa1=>?_⟩;refine⟨λa2=>jt (bad (λh=>by have a2:256 < tol:=a2;unfold zeO at h;omega)),λa2=>?_⟩;have ht:zeO tol:=⟨by have a1:¬tol < 1:=a1;omega,by have a2:¬256 < tol:=a2;omega⟩;have eQ:z5 l tol=if (jk l tol).2≠0 then([],(jk l tol).2) else if 4096 < jI (jk l tol).1 then([],5) else((jk l tol).1,0):=by unfold z5;rw[kS hv,kS ht]
 intro hl3
 refine⟨Nat×Option (List Pl×Pl),λq=>match q with
   | (i,none)=>⟨[(1,i64 tol),(6,.val (.slice none 0 0)),(27,.sl sgE l),(28,i64 (l.length:Int)),(29,i64 (i:Int))],[],0,128,0⟩
   | (i,some (cl,p))=>⟨[(1,i64 tol),(6,.own 0),(27,.sl sgE l),(28,i64 (l.length:Int)),(29,i64 (i:Int))],[(0,.garr 118 2 (jJ cl 1 (pr (p.cl=true)))),(1,.arr 35 ptE 2 p.pts)],2,128,0⟩,
  λq=>match q with
   | (i,none)=>i=0
   | (i,some (cl,p))=>0 < i/\i<=l.length/\jk (l.take i) tol=(cl++[p],0)/\cl.length < i/\p.pts.length<=1+64*i/\∀q∈cl,q.pts.length<=20000,λq=>l.length - q.1,(0,none),rfl,?_,?_⟩
 ·exact zE []
 rintro⟨i,_ | ⟨cl,p⟩⟩ hI
 ·have hI:i=0:=hI;subst hI;refine⟨λg=>?_,λg=>?_⟩
  ·have g:(0:Int) < l.length:=g;refine Ob.mk ⟨dC,g⟩ ?_;intro x hx;have hx:l[0]? =some x:=hx;have hv1:x.v=1:=zhU hv x hx;refine⟨λ_=>?_,λh=>absurd hv1 h⟩;refine⟨Pt,ptE,[x.a],rfl,Ob.o0 ?_⟩;refine⟨[[.own 1,.val (.bool false)]],rfl,Ob.o8 ?_⟩;refine Ob.mk ⟨by show((1:Nat):Int)*32<=_;decide,by show 1<=_;decide,dC⟩<|Ar.fit dC ?_;have e:=vM (tol:=tol) hx
   refine⟨(1,some ([],⟨[x.a],false⟩)),⟨dC,oM,?_,dC,by show 1<=_;decide,λq hq=>by cases hq⟩,
    (zd8 3 rfl (ys:=jJ [] 1 (pr ((⟨[x.a],false⟩:Pl).cl=true))) (.cons (.cons .refl (.cons (zd (show ¬(false=true) by decide)) .nil)) .nil)).trans (zC [3,1] ⟨⟨_,rfl,vY rfl⟩,rfl,trivial⟩),by show l.length - 1 < l.length - 0;omega⟩
   rw[e];show uf tol ([],0) x=_;rw[zgc,if_pos hv1]
  ·have g:¬(0:Int) < l.length:=g;have hl0:l=[]:=Xn oM;refine⟨Unit,λ_=>⟨[(6,.val (.slice none 0 0)),(13,i64 0),(114,i64 0),(115,i64 0)],[],0,128,0⟩,λ_=>True,λ_=>0,(),trivial,?_,?_⟩
   ·exact zE []
   rintro⟨⟩ _
   refine⟨λg=>absurd g dC,λ_=>?_⟩;refine⟨λg=>absurd g dC,λ_=>?_⟩;refine jt ?_;rw[eQ,hl0];rfl
 obtain⟨k0,k1,k2,k3,k4,k5⟩:0 < i/\i<=l.length/\jk (l.take i) tol=(cl++[p],0)/\cl.length < i/\p.pts.length<=1+64*i/\∀q∈cl,q.pts.length<=20000:=hI;have inv:=zjW (tol:=tol) (lo:=⟨-1048576,-1048576⟩) (hi:=⟨1048576,1048576⟩) ho (λp hp=>zwG hv p hp) i k1 (by rw[k2]);rw[k2]at inv;obtain⟨pne,_,pok⟩:=inv.2 p (by simp);have hp1:0 < p.pts.length:=X5 λh=>pne (Xn h)
 refine⟨λg=>?_,λg=>?_⟩
 ·have g:(i:Int) < l.length:=g;refine Ob.mk ⟨oM,g⟩ ?_;intro x hx;have hx:l[i]? =some x:=hx;have e:=vM (tol:=tol) hx;rw[k2]at e;have hf:=zyW (zpm ho x (Xd hx));refine⟨λv1=>?_,λv1=>?_⟩
  ·have v1:x.v=1:=v1;refine⟨Pt,ptE,[x.a],rfl,Ob.o0 ?_⟩;refine⟨[[.own 3,.val (.bool false)]],rfl,Ob.o8 ?_⟩;refine Ob.mk ⟨by show _*(32:Int)<=_;rw[zae];simp only[Xl,Xs];omega,by rw[zae];simp only[Xl,Xs];omega,dC⟩<|Ar.o ?_
   refine⟨(i+1,some (cl++[p],⟨[x.a],false⟩)),⟨oM,oM,?_,?_,?_,?_⟩,
    ((zd8 5 rfl (ys:=jJ cl 1 (pr (p.cl=true))++[[.own 3,pr ((⟨[x.a],false⟩:Pl).cl=true)]]) (Rows.app .refl (.cons (.cons .refl (.cons (zd (show ¬(false=true) by decide)) .nil)) .nil))).trans
     (zco (sz0:=2) (T0:=118) 1 5 (enc:=ptE) (ys:=p.pts) rfl rfl (xs':=jJ (cl++[p]) 3 (pr ((⟨[x.a],false⟩:Pl).cl=true))) (by simp[jJ]) (λz hz=>?_) (zpF _))).trans
     (zC [5,3] ⟨⟨_,rfl,vY rfl⟩,rfl,trivial⟩),by show l.length - (i+1) < l.length - i;omega⟩
   ·rw[e,zgc,if_pos v1]
   ·simp only[Xi,Xl,Xs];omega
   ·show 1<=_;omega
   ·intro q hq
    rcases Xo.1 hq with hq | hq
    ·exact k5 q hq
    ·rw[Xr.1 hq];omega
   ·rcases Xo.1 hz with hz | hz
    ·obtain⟨w,_,rfl⟩:=XY.1 hz;rfl
    ·rw[Xr.1 hz];rfl
  have v1:¬x.v=1:=v1;rw[zpH v1]at e;intro hl6;refine Ar.o ?_;have hrl:=zae cl 1 (pr (p.cl=true));have hN:((jJ cl 1 (pr (p.cl=true))).length:Int) - 1=cl.length:=by rw[hrl];omega
  have hrow:0<=((jJ cl 1 (pr (p.cl=true))).length:Int) - 1/\((jJ cl 1 (pr (p.cl=true))).length:Int) - 1 < (jJ cl 1 (pr (p.cl=true))).length:=oM;refine Ob.mk hrow<|Br.mk (λv5=>?_) (λv5=>?_)
  ·have v5:¬x.v=5:=v5;refine Dr.d<|Ob.mk hrow ?_;intro y hy;obtain rfl:=znt hN hy;refine Ob.mk hrow ?_;intro y hy;obtain rfl:=znt hN hy;intro hl8;refine Ar.o<|Ob.o<|Ob.o ?_;intro z hz
   have hz:p.pts[p.pts.length - 1]? =some z:=by
    have hz:p.pts[((p.pts.length:Int) - 1).toNat]? =some z:=hz
    rwa [show((p.pts.length:Int) - 1).toNat=p.pts.length - 1 by omega]at hz
   have hlz:=zw2 hz
   have eg:za4 p x tol=if (kO z x tol).2≠0 then(p,(kO z x tol).2) else(⟨kz p.pts (kO z x tol).1,p.cl⟩,0):=by
    unfold za4;rw[if_neg v5,hlz]
   refine zb.t (p_seg z x tol (pok z (Xd hz)) hf)<|Ob.mk (by kernel_rfl) ?_;have sl:=znu z x tol;refine⟨λk=>?_,λk=>?_⟩
   ·have k:¬(kO z x tol).2=0:=k;refine jt ?_;rw[if_pos k]at eg;rw[eg,if_pos k]at e;have:=zlK hx (by rw[e];exact k);rw[e]at this;rw[eQ,this,if_pos k]
   have k:(kO z x tol).2=0:=Xa.1 k;rw[jc k]at eg;rw[eg,jc rfl]at e
   refine zb.give [0,1] 1 [.eloc 0 2 (cl.length:Int) 0,.sl ptE (kO z x tol).1] [(0,.garr 118 2 (jJ cl 1 (pr (p.cl=true)))),(1,.arr 35 ptE 2 p.pts)]
    [(0,.garr 118 2 (jJ cl 2 (pr (p.cl=true)))),(2,.arr 35 ptE 2 (kz p.pts (kO z x tol).1))] (.tup []) (zBr cl p.pts (kO z x tol).1 (p.cl=true) oM sl oM)
    (.cons (ub (congrArg (λn=>SV.eloc 0 2 n 0) hN)) (.cons .refl .nil)) rfl rfl rfl ⟨⟨_,rfl,congrArg (λq=>some (Mem.garr 118 2 q)) (zpB [0,1] _ cl 1 _ _).symm,zw0 rfl cl _ _⟩,⟨_,rfl,rfl,trivial⟩,trivial⟩ rfl ⟨⟨rfl,zw1 rfl cl _ _⟩,⟨rfl,trivial⟩,trivial⟩ ?_
   refine Ar.o ?_
   refine⟨(i+1,some (cl,⟨kz p.pts (kO z x tol).1,p.cl⟩)),⟨oM,oM,e,oM,?_,k5⟩,
    zC [0,3] ⟨⟨_,congrArg (λq=>some (Mem.garr 118 2 q)) (zpB [0,1] 3 cl 2 _ _),vY rfl⟩,rfl,trivial⟩,by show l.length - (i+1) < l.length - i;omega⟩
   have:=vq (kO z x tol).1 p.pts;show(kz p.pts (kO z x tol).1).length<=_;omega
  ·have v5:x.v=5:=Xa.1 v5;have eg:za4 p x tol=(⟨qi p.pts,true⟩,0):=by unfold za4;rw[if_pos v5]
   rw[eg,jc rfl]at e;refine Ob.mk hrow ?_;intro y hy;obtain rfl:=znt hN hy;have hrow2:∀w:List SV,0<=((jJ cl 1 (pr (p.cl=true))).length:Int) - 1/\((jJ cl 1 (pr (p.cl=true))).length:Int) - 1 < ((jJ cl 1 (pr (p.cl=true))).set (((jJ cl 1 (pr (p.cl=true))).length:Int) - 1).toNat w).length:=λw=>by rw[X1];omega
   refine Ob.mk (hrow2 _) ?_;intro y hy;obtain rfl:=zdH hN hy;intro hl8
   have fin:∀{σ:St} (q:List Pt),qi p.pts=q->Sub σ ⟨[(1,i64 tol),(6,.own 0),(27,.sl sgE l),(28,i64 (l.length:Int)),(29,i64 ((i+1:Nat):Int))],[(0,.garr 118 2 (jJ cl 1 (pr ((⟨qi p.pts,true⟩:Pl).cl=true)))),(1,.arr 35 ptE 2 q)],2,128,0⟩->
     ∃x',(match x' with
      | (i,none)=>i=0
      | (i,some (cl,p))=>0 < i/\i<=l.length/\jk (l.take i) tol=(cl++[p],0)/\cl.length < i/\p.pts.length<=1+64*i/\∀q∈cl,q.pts.length<=20000:Prop)/\
     Sub σ (match x' with
      | (i,none)=>⟨[(1,i64 tol),(6,.val (.slice none 0 0)),(27,.sl sgE l),(28,i64 (l.length:Int)),(29,i64 (i:Int))],[],0,128,0⟩
      | (i,some (cl,p))=>⟨[(1,i64 tol),(6,.own 0),(27,.sl sgE l),(28,i64 (l.length:Int)),(29,i64 (i:Int))],[(0,.garr 118 2 (jJ cl 1 (pr (p.cl=true)))),(1,.arr 35 ptE 2 p.pts)],2,128,0⟩)/\l.length - x'.1 < l.length - (i,some (cl,p)).1:=λq hq hs=>by
    refine⟨(i+1,some (cl,⟨qi p.pts,true⟩)),⟨oM,oM,e,oM,?_,k5⟩,?_,by show l.length - (i+1) < l.length - i;omega⟩
    ·have:=zpG p.pts;show(qi p.pts).length<=_;omega
    ·subst hq;exact hs
   refine Dr.d<|Br.mk (λm=>?_) (λm=>?_)
   ·have m:(1:Int) < p.pts.length:=m;refine Ob.mk (hrow2 _) ?_;intro y hy;obtain rfl:=zdH hN hy;refine Ar.o<|Ob.o<|Ob.o ?_;intro z hz
    have hz:p.pts[p.pts.length - 1]? =some z:=by
     have hz:p.pts[((p.pts.length:Int) - 1).toNat]? =some z:=hz
     rwa [show((p.pts.length:Int) - 1).toNat=p.pts.length - 1 by omega]at hz
    refine Ob.mk (hrow2 _) ?_;intro y hy;obtain rfl:=zdH hN hy;refine Ob.o<|Ob.o ?_;intro f hf;have hf:p.pts[0]? =some f:=hf;refine Ob.mk (by kernel_rfl)<|⟨λk=>?_,λk=>?_⟩
    ·have k:z=f:=k8.1 k;refine Ob.mk (hrow2 _) ?_;intro y hy;obtain rfl:=zdH hN hy;refine Ar.o<|Sl.keep (Ob.mk ⟨rfl,oM,oM⟩ ?_);refine Ob.mk (hrow2 _) ?_;intro y hy;obtain rfl:=zdH hN hy;refine Ar.o<|fin (p.pts.take ((p.pts.length:Int) - 1).toNat) ?_ ?_;rotate_left
     ·exact(zd8 0 (by exact congrArg (λq=>some (Mem.garr 118 2 q)) (zud hN)) (ys:=jJ cl 3 (pr ((⟨qi p.pts,true⟩:Pl).cl=true))) (Rows.app .refl (.cons (.cons .refl (.cons (zT rfl) .nil)) .nil))).trans
       (zC [0,3] ⟨⟨_,rfl,vY rfl⟩,rfl,trivial⟩)
     rw[show((p.pts.length:Int) - 1).toNat=p.pts.length - 1 by omega];exact zgk oM hz hf k
    ·have k:¬z=f:=λh=>k (k8.2 h)
     refine Ar.o<|fin p.pts (ziy hz hf k) ?_
     exact((zd8 0 (by exact congrArg (λq=>some (Mem.garr 118 2 q)) (zgj hN)) (ys:=jJ cl 1 (pr ((⟨qi p.pts,true⟩:Pl).cl=true))) (Rows.app .refl (.cons (.cons .refl (.cons (zT rfl) .nil)) .nil))).trans
      (zC [0,1] ⟨⟨_,rfl,vY rfl⟩,rfl,trivial⟩))
   ·have m:¬(1:Int) < p.pts.length:=m;refine Ob.mk (by kernel_rfl)<|Ar.o<|fin p.pts (zgl oM) ?_
    exact((zd8 0 (by exact congrArg (λq=>some (Mem.garr 118 2 q)) (zgj hN)) (ys:=jJ cl 1 (pr ((⟨qi p.pts,true⟩:Pl).cl=true))) (Rows.app .refl (.cons (.cons .refl (.cons (zT rfl) .nil)) .nil))).trans
     (zC [0,1] ⟨⟨_,rfl,vY rfl⟩,rfl,trivial⟩))
 ·have g:¬(i:Int) < l.length:=g;have hi:l.take i=l:=Xg oM;rw[hi]at k2
  have hout:∀q∈cl++[p],q.pts.length<=20000:=λq hq=>by
   rcases Xo.1 hq with hq | hq
   ·exact k5 q hq
   ·rw[Xr.1 hq];omega
  have hlo:(cl++[p]).length=cl.length+1:=by simp
  rw[eQ,k2,jc rfl];intro hl12;refine⟨Nat,λk=>⟨[(6,.own 0),(13,i64 (jI ((cl++[p]).take k):Int)),(113,.own 0),(114,i64 ((cl++[p]).length:Int)),(115,i64 (k:Int))],[(0,.arr 118 plE 2 (cl++[p]))],1,128,0⟩,λk=>k<=(cl++[p]).length,λk=>(cl++[p]).length - k,0,?_,?_,?_⟩
  ·exact Xe _
  ·exact((zco (sz0:=2) (T0:=118) 1 0 (enc:=ptE) (ys:=p.pts) rfl rfl (xs':=(cl++[p]).map plE) (by rw[zae,XF,hlo]) (λz hz=>by obtain⟨w,_,rfl⟩:=XY.1 hz;rfl)
    (λi j x' s' hx hs=>by have:=zpF (cl:=cl) (p:=p) (a:=1) [] i j x' s' (by rwa [XE]) hs;rwa [XE]at this)).trans (zfQ 0 plE (cl++[p]) rfl (λ_ _=>rfl))).trans
    (zL [0] ⟨rfl,rfl,rfl,congrArg (λn=>some (i64 n)) (by rw[zae,hlo]),rfl,trivial⟩ ⟨rfl,trivial⟩)
  rintro k hk
  have hc:=znv hout k hk;refine⟨λg=>?_,λg=>?_⟩
  ·have g:(k:Int) < (cl++[p]).length:=g;refine Ob.o<|Ob.o ?_;intro q hq;have hq:(cl++[p])[k]? =some q:=hq;intro hl14;have:=hout q (Xd hq);(iterate 2 refine Ar.o ?_);refine⟨k+1,oM,zL [0] ⟨rfl,congrArg (λn=>some (i64 n)) (by rw[zl0 hq];omega),rfl,rfl,rfl,trivial⟩ ⟨rfl,trivial⟩,by dsimp only;omega⟩
  ·have g:¬(k:Int) < (cl++[p]).length:=g;have hk:(cl++[p]).take k=cl++[p]:=Xg oM;refine⟨λm=>?_,λm=>?_⟩
   ·have m:(4096:Int) < (jI ((cl++[p]).take k):Int):=m;rw[hk]at m;exact jt (if_pos (show 4096 < jI (cl++[p]) by omega))
   ·have m:¬(4096:Int) < (jI ((cl++[p]).take k):Int):=m;rw[hk]at m;exact zw3 (if_neg (show ¬4096 < jI (cl++[p]) by omega))
theorem zhm(h:jD l):qi (qi l)=qi l:=by
 have:=zlJ h;generalize qi l=m at*;unfold qi;rw[if_neg (λk=>this k.1 k.2)]
def zeQ(l:List Sg)(tol:Int):Nat->Nat->List Pt->Pl×Nat×Int
 | 0,i,q=>(⟨q,false⟩,i,0)
 | k+1,i,q=>match l[i]? with
  | none=>(⟨q,false⟩,i,0)
  | some s=>if s.v=1 then(⟨q,false⟩,i,0) else if s.v=5 then(⟨qi q,true⟩,i+1,0)
   else if (kO (qP q) s tol).2≠0 then(⟨[],false⟩,0,(kO (qP q) s tol).2) else zeQ l tol k (i+1) (kz q (kO (qP q) s tol).1)
theorem zka{l:List Sg}{s:Sg}(h:l[i]? =some s):zeQ l tol (l.length - i) i q=
  if s.v=1 then(⟨q,false⟩,i,0) else if s.v=5 then(⟨qi q,true⟩,i+1,0)
   else if (kO (qP q) s tol).2≠0 then(⟨[],false⟩,0,(kO (qP q) s tol).2) else zeQ l tol (l.length - (i+1)) (i+1) (kz q (kO (qP q) s tol).1):=by
 have hi:=(Xc.1 h).1;rw[show l.length - i=(l.length - (i+1))+1 by omega,zeQ,h]
theorem zl1{l:List Sg}(h:l.length<=i):zeQ l tol (l.length - i) i q=(⟨q,false⟩,i,0):=by
 rw[show l.length - i=0 by omega];rfl
def SubOK(l:List Sg)(tol:Int)(a:Nat)(out:List Pl)(r:Pl×Nat×Int):Prop:=
 (r.2.2≠0/\jk l tol=([],r.2.2))∨(r.2.2=0/\a < r.2.1/\r.2.1<=l.length/\(∀y,l[r.2.1]? =some y->y.v=1)/\jk (l.take r.2.1) tol=(out++[r.1],0)/\r.1.pts.length<=1+64*l.length)
theorem zkb{l:List Sg}{tol:Int}{a:Nat}{out:List Pl}(ho:oks 5 l):∀(k i:Nat) (q:List Pt),k=l.length - i->a < i->i<=l.length->jk (l.take i) tol=(out++[⟨q,false⟩],0)->q.length<=1+64*i->SubOK l tol a out (zeQ l tol (l.length - i) i q)
 | 0,i,q,hk,h1,h2,h3,h4=>by
  rw[zl1 oM];exact .inr ⟨rfl,h1,h2,λy hy=>by have:=(Xc.1 hy).1;dsimp only at this;omega,h3,by show q.length<=_;omega⟩
 | k+1,i,q,hk,h1,h2,h3,h4=>by
  have hi:i < l.length:=oM;have hx:l[i]? =some l[i]:=Xb hi;have e:=vM (tol:=tol) hx;rw[h3]at e;rw[zka hx];generalize l[i]=s at*
  by_cases v1:s.v=1
  ·rw[if_pos v1];exact .inr ⟨rfl,h1,h2,λy hy=>by have hy:l[i]? =some y:=hy;rw[hx]at hy;rw[← Xj hy];exact v1,h3,by show q.length<=_;omega⟩
  rw[if_neg v1];rw[zpH v1]at e
  by_cases v5:s.v=5
  ·rw[if_pos v5];have eg:za4 ⟨q,false⟩ s tol=(⟨qi q,true⟩,0):=by unfold za4;rw[if_pos v5]
   rw[eg,jc rfl]at e;refine .inr ⟨rfl,by show a < i+1;omega,by show i+1<=_;omega,λy hy=>?_,e,?_⟩
   ·have he:=zre ho hy;have hl:zpj 5 l (i+1)=s.v:=zjV hx;dsimp only at he;rw[hl,v5]at he;exact(u1.1 he).2.1.resolve_right λh=>h.1 rfl
   ·have:=zpG q;show(qi q).length<=_;omega
  rw[if_neg v5];have eg:za4 ⟨q,false⟩ s tol=if (kO (qP q) s tol).2≠0 then(⟨q,false⟩,(kO (qP q) s tol).2) else(⟨kz q (kO (qP q) s tol).1,false⟩,0):=by unfold za4;rw[if_neg v5]
  by_cases k0:(kO (qP q) s tol).2=0
  ·rw[jc k0]at eg ⊢;rw[eg,jc rfl]at e;have h5:=vq (kO (qP q) s tol).1 q;have h6:=znu (qP q) s tol;exact zkb ho k (i+1) _ oM oM oM e oM
  ·rw[if_pos k0]at eg ⊢;rw[eg,if_pos k0]at e;have:=zlK hx (by rw[e];exact k0);rw[e]at this;exact .inl ⟨k0,this⟩
theorem zBt{s:Sg}(h:(kO p s tol).2=0):(kO p s tol).1≠[]:=by
 have up:∀(f:Int->Pt) (n:Nat),1<=n->zbZ f n≠[]:=λf n hn e=>by
  have:=zad f n;rw[e]at this;simp at this;omega
 unfold kO at h ⊢
 by_cases h3:s.v=3
 ·rw[if_pos h3]at h ⊢;have k:(j7 p s.a s.b tol).2=0:=Xa.1 λk=>k (by rw[zhi k]at h;exact h)
  have ok:=(yS (show(kZ _ tol _).2=0 from k)).1;have ok:1<=(j7 p s.a s.b tol).1/\(j7 p s.a s.b tol).1<=64:=ok;rw[zj8 k];dsimp only;exact up _ _ (show 1<=(j7 p s.a s.b tol).1.toNat by omega)
 ·rw[if_neg h3]at h ⊢
  by_cases h4:s.v=4
  ·rw[if_pos h4]at h ⊢;have k:(j8 p s.a s.b s.c tol).2=0:=Xa.1 λk=>k (by rw[zhk k]at h;exact h)
   have ok:=(yS (show(kZ _ tol _).2=0 from k)).1;have ok:1<=(j8 p s.a s.b s.c tol).1/\(j8 p s.a s.b s.c tol).1<=64:=ok;rw[zj9 k];dsimp only;exact up _ _ (show 1<=(j8 p s.a s.b s.c tol).1.toNat by omega)
  ·rw[if_neg h4];simp
def subE(r:Pl×Nat×Int):SV:=.tup [.agg (plE r.1),i64 (r.2.1:Int),i64 r.2.2]
theorem zrj{q more:List Pt}{z:Pt}(h:more[more.length - 1]? =some z):qP (kz q more)=z:=by
 have hne:more≠[]:=λe=>by rw[e]at h;simp at h
 unfold qP;rw[QK,zlI more q hne,KN,h];rfl
theorem zue(l:List Sg)(a:Nat)(x:Sg)(tol:Int)(hx:l[a]? =some x)(hlen:l.length<=300):
  CG0 119 [.sl sgE l,i64 (a:Int),i64 tol] [] (subE (zeQ l tol (l.length - (a+1)) (a+1) [x.a])) []:=by
 have ha:=(Xc.1 hx).1;refine zcD 1 tok mix Tryz.func119 rfl rfl rfl<|Ob.o4 ?_;intro x' hx';have ex:x'=x:=Xj ((show l[a]? =some x' from hx').symm.trans hx);rw[ex];refine⟨Pt,ptE,[x.a],rfl,Ob.o0 ?_⟩;refine Ar.o ?_;generalize hR:zeQ l tol (l.length - (a+1)) (a+1) [x.a]=R
 refine⟨Nat×List Pt,λs=>⟨[(0,.sl sgE l),(2,i64 tol),(6,.loc 0 0),(9,.loc 1 0),(10,.loc 2 0),(11,i64 (s.1:Int))],
   [(0,.box 118 [.val (.slice none 0 0),.val (.bool false)]),(1,.box 35 (ptE (qP s.2))),(2,.box 118 [.own 3,.val (.bool false)]),(3,.arr 35 ptE 2 s.2)],4,102,0⟩,
  λs=>a < s.1/\s.1<=l.length/\zeQ l tol (l.length - s.1) s.1 s.2=R/\jD s.2/\s.2≠[]/\s.2.length<=1+64*s.1,λs=>l.length - s.1,(a+1,[x.a]),?_,?_,?_⟩
 ·exact⟨by dsimp only;omega,by dsimp only;omega,hR,⟨λ_ h=>(by cases h),trivial⟩,by simp,by show 1<=_;omega⟩
 ·exact zL [0,1,3,2] ⟨rfl,rfl,rfl,rfl,rfl,congrArg (λn=>some (i64 n)) (show((a+1:Nat):Int)=(a:Int)+1 by omega).symm,trivial⟩ ⟨rfl,rfl,rfl,rfl,trivial⟩
 rintro⟨i,q⟩ ⟨h1,h2,h3,h4,h5,h6⟩
 dsimp only at h1 h2 h3 h4 h5 h6;have hq1:0 < q.length:=X5 λh=>h5 (Xn h)
 have out:(l.length<=i∨∃s,l[i]? =some s/\s.v=1)->R=(⟨q,false⟩,i,0):=λh=>by
  rw[← h3]
  rcases h with h | ⟨s,hs,hv⟩
  ·exact zl1 h
  ·rw[zka hs,if_pos hv]
 have fin:R=(⟨q,false⟩,i,0)->LE (.tup [.agg [.sl ptE q,bl false],i64 (i:Int),i64 0]) (subE R):=λh=>by
  rw[h];exact zam (.cons (qA (.cons .refl (.cons (zd (show ¬(false=true) by decide)) .nil))) (.cons .refl (.cons .refl .nil)))
 intro hl1;refine⟨λg=>?_,λg=>?_⟩;rotate_left
 ·have g:¬(i:Int) < l.length:=g;exact fin (out (.inl oM))
 have g:(i:Int) < l.length:=g;refine Ob.o ?_;intro s hs;have hs:l[i]? =some s:=hs;refine⟨λv1=>?_,λv1=>?_⟩;rotate_left
 ·have v1:s.v=1:=Xa.1 v1;exact fin (out (.inr ⟨s,hs,v1⟩))
 have v1:¬s.v=1:=v1;rw[zka hs,if_neg v1]at h3;refine Ob.o ?_;intro s' hs';have es:s'=s:=Xj ((show l[i]? =some s' from hs').symm.trans hs);rw[es];refine⟨λv5=>?_,λv5=>?_⟩
 ·have v5:s.v=5:=v5;rw[if_pos v5]at h3
  refine⟨List Pt,λq'=>⟨[(6,.loc 0 0),(10,.loc 2 0),(11,i64 (i:Int))],
    [(0,.box 118 [.val (.slice none 0 0),.val (.bool false)]),(2,.box 118 [.own 3,.val (.bool true)]),(3,.arr 35 ptE 2 q')],4,102,0⟩,
   λq'=>qi q'=qi q/\jD q'/\q'.length<=q.length,λq'=>q'.length,q,?_,?_,?_⟩
  ·exact⟨rfl,h4,Xh _⟩
  ·exact zE [(0,some 0),(2,some 2),(3,some 3)]
  rintro q' ⟨t1,t2,t3⟩
  have fin2:qi q'=q'->LE (.tup [.agg [.sl ptE q',bl true],i64 ((i:Int)+1),i64 0]) (subE R):=λh=>by
   rw[← h3,← t1,h];exact zam (.cons (qA (.cons .refl (.cons (zT rfl) .nil))) (.cons (zi (show(i:Int)+1=((i+1:Nat):Int) by omega)) (.cons .refl .nil)))
  refine Dr.d ?_;intro hl4;refine⟨λm=>?_,λm=>?_⟩
  ·have m:(1:Int) < q'.length:=m;intro hl5;refine Ar.o<|Ob.o<|Ob.o ?_;intro z hz
   have hz:q'[q'.length - 1]? =some z:=by
    have hz:q'[((q'.length:Int) - 1).toNat]? =some z:=hz
    rwa [show((q'.length:Int) - 1).toNat=q'.length - 1 by omega]at hz
   refine Ob.o<|Ob.o ?_;intro f hf;have hf:q'[0]? =some f:=hf;refine Ob.mk (by kernel_rfl)<|⟨λk=>?_,λk=>?_⟩
   ·have k:z=f:=k8.1 k;have et:=zgk (show 1 < q'.length by omega) hz hf k;intro hl7;refine Ar.o<|Sl.keep (Ob.mk ⟨rfl,oM,oM⟩ ?_);refine⟨q'.take (q'.length - 1),⟨?_,?_,?_⟩,zz1 [(0,some 0),(2,some 2),(3,some 4)] ⟨rfl,rfl,congrArg (λq=>some (Mem.arr 35 ptE 2 q)) (by rw[show((q'.length:Int) - 1).toNat=q'.length - 1 by omega]),trivial⟩,?_⟩
    ·rw[← et,zhm t2,t1]
    ·rw[← et];exact za5 t2
    ·rw[Xk];omega
    ·show(q'.take (q'.length - 1)).length < q'.length;rw[Xk];omega
   ·have k:¬z=f:=λh=>k (k8.2 h)
    exact Ar.o<|fin2 (ziy hz hf k)
  ·have m:¬(1:Int) < q'.length:=m;exact Ob.mk (by kernel_rfl)<|Ar.o<|fin2 (zgl oM)
 have v5:¬s.v=5:=v5;rw[if_neg v5]at h3;refine Dr.d<|Ob.o ?_;intro s' hs';have es:s'=s:=Xj ((show l[i]? =some s' from hs').symm.trans hs);rw[es];refine zb.t (r_seg (qP q) s tol)<|Ob.mk (by kernel_rfl)<|⟨λk=>?_,λk=>?_⟩
 ·have k:¬(kO (qP q) s tol).2=0:=k;rw[if_pos k]at h3;rw[← h3];exact zam (.cons (qA (.cons zD (.cons (zd (show ¬(false=true) by decide)) .nil))) (.cons .refl (.cons .refl .nil)))
 have k:(kO (qP q) s tol).2=0:=Xa.1 k;rw[jc k]at h3;have sl:=znu (qP q) s tol;have sn:=zBt k;have sn1:0 < (kO (qP q) s tol).1.length:=X5 λh=>sn (Xn h)
 have pl:=vq (kO (qP q) s tol).1 q
 refine zb.give [3] 1 [.own 0,.sl ptE (kO (qP q) s tol).1] [(0,.arr 35 ptE 2 q)] [(1,.arr 35 ptE 2 (kz q (kO (qP q) s tol).1))] (.own 1) (zBs q (kO (qP q) s tol).1 oM sl)
  LEs.refl rfl rfl rfl ⟨⟨_,rfl,rfl,trivial⟩,trivial⟩ rfl ⟨⟨rfl,trivial⟩,trivial⟩ ?_
 intro hl9;refine Ar.o<|Ob.o ?_;intro z hz
 have hz:(kO (qP q) s tol).1[(kO (qP q) s tol).1.length - 1]? =some z:=by
  have hz:(kO (qP q) s tol).1[(((kO (qP q) s tol).1.length:Int) - 1).toNat]? =some z:=hz
  rwa [show(((kO (qP q) s tol).1.length:Int) - 1).toNat=(kO (qP q) s tol).1.length - 1 by omega]at hz
 have elp:=zrj (q:=q) hz;refine Ar.o ?_
 refine⟨(i+1,kz q (kO (qP q) s tol).1),⟨by dsimp only;omega,by dsimp only;omega,h3,zfb _ h4,znj _ h5,by dsimp only;omega⟩,
  zC [0,1,2,4] ⟨rfl,?_,rfl,rfl,trivial⟩,by dsimp only;omega⟩
 exact congrArg (λp=>some (Mem.box 35 (ptE p))) elp.symm
theorem zw5(l:List Sg)(tol:Int):CG0 58 [.sl sgE l,i64 tol] [] (znw (z5 l tol)) []:=by
 refine zc Tryz.func58 ?_;refine zb.t (zf4 l)<|⟨λa0=>jt (by unfold z5;rw[if_pos a0]),λa0=>?_⟩;have hv:=Xa.1 a0;have hlen:=zg9 hv;have ho:=(zbY.1 hv).2;refine zb.t (zwM tol)<|⟨λa1=>jt (by unfold z5;rw[kS hv,if_pos a1]),λa1=>?_⟩;have ht:=Xa.1 a1;have eQ:z5 l tol=if (jk l tol).2≠0 then([],(jk l tol).2) else if 4096 < jI (jk l tol).1 then([],5) else((jk l tol).1,0):=by unfold z5;rw[kS hv,kS ht]
 refine⟨Pl,plE,[],rfl,Ob.o2 ?_⟩
 refine⟨Nat×List Pl,λs=>⟨[(0,.sl sgE l),(1,i64 tol),(6,.own 0),(7,i64 (jI s.2:Int)),(8,i64 (s.1:Int))],[(0,.arr 118 plE 2 s.2)],1,47,0⟩,
  λs=>s.1<=l.length/\jk (l.take s.1) tol=(s.2,0)/\(∀y,l[s.1]? =some y->y.v=1)/\s.2.length<=s.1/\∀q∈s.2,q.pts.length<=20000,λs=>l.length - s.1,(0,[]),?_,?_,?_⟩
 ·exact⟨Xe _,rfl,λy hy=>zhU hv y hy,Xe _,λq hq=>by cases hq⟩
 ·exact zf [0]
 rintro⟨i,out⟩ ⟨h1,h2,h3,h4,h5⟩
 dsimp only at h1 h2 h3 h4 h5;have hc:=znv h5 out.length (Xh _);rw[X9]at hc;intro hl3;refine⟨λg=>?_,λg=>?_⟩
 ·have g:(i:Int) < l.length:=g;obtain⟨x,hx⟩:∃x,l[i]? =some x:=⟨_,Xb oM⟩;have v1:=h3 x hx;have e:=vM (tol:=tol) hx;rw[h2,zgc,if_pos v1]at e;have sp:=zkb (a:=i) ho (l.length - (i+1)) (i+1) [x.a] rfl oM oM e (by show 1<=_;omega);refine zb.t (zue l i x tol hx oM) ?_;generalize zeQ l tol (l.length - (i+1)) (i+1) [x.a]=R at*;obtain⟨p,j,er⟩:=R;refine⟨λk=>?_,λk=>?_⟩
  ·have k:¬er=0:=k
   rcases sp with⟨_,sp⟩ | ⟨sp,_⟩
   ·refine jt ?_;dsimp only at sp;rw[eQ,sp,if_pos k]
   ·exact absurd sp k
  have k:er=0:=Xa.1 k
  rcases sp with⟨sp,_⟩ | ⟨_,s1,s2,s3,s4,s5⟩
  ·exact absurd k sp
  dsimp only at s1 s2 s3 s4 s5;intro hl6;have hl6:p.pts.length<=9223372036854775807:=hl6;refine Ar.fit (by show _<=(jI out:Int)+(p.pts.length:Int)/\(jI out:Int)+(p.pts.length:Int)<=_;omega)<|⟨Pl,plE,[p],rfl,Ob.o0 ?_⟩;refine⟨[p],rfl,Ob.mk ⟨(by show _*(32:Int)<=_;simp only[Xl,Xs];omega),(by simp only[Xl,Xs];omega),dC,λ_ _=>rfl⟩ ?_⟩
  refine⟨(j,out++[p]),⟨s2,s4,s3,by simp only[Xi,Xl,Xs];omega,λq hq=>?_⟩,
   zL [3] ⟨rfl,rfl,rfl,congrArg (λn=>some (i64 n)) (show(jI out:Int)+(p.pts.length:Int)=(jI (out++[p]):Int) by unfold jI;simp),rfl,trivial⟩ ⟨rfl,trivial⟩,by dsimp only;omega⟩
  rcases Xo.1 hq with hq | hq
  ·exact h5 q hq
  ·rw[Xr.1 hq];omega
 ·have g:¬(i:Int) < l.length:=g;rw[Xg oM]at h2;rw[eQ,h2,jc rfl];refine⟨λm=>?_,λm=>?_⟩
  ·have m:(4096:Int) < (jI out:Int):=m;exact jt (if_pos (show 4096 < jI out by omega))
  ·have m:¬(4096:Int) < (jI out:Int):=m;exact zw3 (if_neg (show ¬4096 < jI out by omega))
theorem zfh:∀(l A:List Pt) (p:Pt),kz (A++[p]) l=A++qX (p::l)
 | [],A,p=>rfl
 | x::r,A,p=>by
  have e:kz (A++[p]) (x::r)=kz (yE (A++[p]) x) r:=rfl;rw[e];unfold yE;rw[Jk];have d:qX (p::x::r)=if p=x then qX (x::r) else p::qX (x::r):=rfl
  rw[d]
  by_cases c:p=x
  ·subst c;rw[if_pos rfl,if_pos rfl];exact zfh r A p
  ·rw[if_neg (λk=>c (Xj k)),if_neg c,zfh r (A++[p]) x,XL];rfl
theorem zpI(l:List Pt):kz [] l=qX l:=by
 cases l with
 | nil=>rfl
 | cons p r=>exact zfh r [] p
def dd(xs:List Pt)(i:Nat):List Pt:=kz [] (xs.take i)
variable{xs:List Pt}
theorem zgm(h:xs[i]? =some x):dd xs (i+1)=yE (dd xs i) x:=by
 unfold dd;exact zhl h
theorem zBu(xs:List Pt)(i:Nat):(dd xs i).length<=i:=by
 unfold dd;have:=vq (xs.take i) [];rw[Xk]at this;simp at this;omega
theorem zrk{xs:List Pt}{i:Nat}(h:xs.length<=i):dd xs i=qX xs:=by
 unfold dd;rw[Xg h,zpI]
theorem zsK(h:xs[i]? =some z):(dd xs (i+1)).getLast?=some z:=by
 rw[zgm h];exact zpi _ _
theorem zBv(h:xs[0]? =some x):dd xs 1=xs.take 1:=by
 rw[zgm h,Xm,h];rfl
theorem znx(hz:xs[i]? =some z)(hx:xs[i+1]? =some x)(e:z=x):dd xs (i+2)=dd xs (i+1):=by
 rw[zgm hx];unfold yE;rw[zsK hz,e,if_pos rfl]
theorem zkc(hz:xs[i]? =some z)(hx:xs[i+1]? =some x)(e:¬z=x):dd xs (i+2)=dd xs (i+1)++[x]:=by
 rw[zgm hx];unfold yE;rw[zsK hz,if_neg (λk=>e (Xj k))]
theorem zyX(h:xs[i]? =some x):xs.take (i+1)=xs.take i++[x]:=by
 rw[Xm,h];rfl
theorem zuf(xs:List Pt)(hx:xs.length<=4096):CG0 245 [.own 0] [(0,.arr 35 ptE 2 xs)] (.sl ptE (qX xs)) []:=by
 refine zh0 1 tok mix Tryz.func245 rfl rfl rfl ?_;intro hl1;refine⟨λg=>?_,λg=>?_⟩
 ·have g:(xs.length:Int) < 2:=g;refine z9 ?_
  match xs,g with
  | [],_=>rfl
  | [p],_=>rfl
  | _::_::_,g=>exact absurd g (by simp only[Xl];omega)
 have g:¬(xs.length:Int) < 2:=g;refine⟨Nat,λi=>⟨[(0,.own 0),(3,i64 ((i:Int)+1))],[(0,.arr 35 ptE 2 xs)],1,61,1⟩,λi=>i+1<=xs.length/\dd xs (i+1)=xs.take (i+1),λi=>xs.length - i,0,?_,?_,?_⟩
 ·exact⟨oM,zBv (Xb oM)⟩
 ·exact zf [0]
 rintro i ⟨h1,h2⟩
 intro hl3;refine⟨λg4=>?_,λg4=>?_⟩;rotate_left
 ·have g4:¬(i:Int)+1 < xs.length:=g4;refine z9 ?_;rw[← zrk (i:=i+1) oM,h2,Xg oM]
 have g4:(i:Int)+1 < xs.length:=g4;refine Dr.k<|Ob.mk ⟨oM,g4⟩<|Ob.mk ⟨oM,g4⟩ ?_;intro x hx'
 have hx0:xs[i+1]? =some x:=by
  have h:xs[((i:Int)+1).toNat]? =some x:=hx'
  rwa [show((i:Int)+1).toNat=i+1 by omega]at h
 refine Ar.o<|Ob.o4<|Ob.o4 ?_;intro z hz'
 have hz0:xs[i]? =some z:=by
  have h:xs[((i:Int)+1 - 1).toNat]? =some z:=hz'
  rwa [show((i:Int)+1 - 1).toNat=i by omega]at h
 refine⟨λk=>?_,λk=>?_⟩;rotate_left
 ·have k:¬z=x:=λh=>k (k8.2 h.symm)
  refine Ar.o<|⟨i+1,⟨oM,?_⟩,zL [0] ⟨rfl,congrArg (λn=>some (i64 n)) oM,trivial⟩ ⟨rfl,trivial⟩,by dsimp only;omega⟩;rw[zkc hz0 hx0 k,h2,zyX hx0]
 have k:z=x:=(k8.1 k).symm;refine Sl.win (Ob.mk ⟨oM,oM,oM,oM⟩ ?_)
 refine⟨Nat×Nat×List Pt,λs=>⟨[(0,.own 0),(3,i64 (s.2.1:Int)),(4,.win 0 2 ((i:Int)+1) ((xs.length:Int) - ((i:Int)+1))),(5,i64 ((s.1:Int)+1))],[(0,.arr 35 ptE 2 s.2.2)],1,61,1⟩,
  λs=>i+1+s.1 < xs.length/\s.2.2.length=xs.length/\s.2.2.take s.2.1=dd xs (i+s.1+2)/\s.2.1=(dd xs (i+s.1+2)).length/\s.2.1<=i+1+s.1/\∀j,i+1+s.1<=j->s.2.2[j]? =xs[j]?,λs=>xs.length - s.1,(0,i+1,xs),?_,?_,?_⟩
 ·have e:=znx hz0 hx0 k;refine⟨by dsimp only;omega,rfl,?_,?_,by dsimp only;omega,λj _=>rfl⟩
  ·show xs.take (i+1)=dd xs (i+0+2);rw[show i+0+2=i+2 from rfl,e,h2]
  ·show i+1=(dd xs (i+0+2)).length;rw[show i+0+2=i+2 from rfl,e,h2,Xk];omega
 ·exact zL [0] ⟨rfl,congrArg (λn=>some (i64 n)) (show((i+1:Nat):Int)=(i:Int)+1 by omega).symm,rfl,rfl,trivial⟩ ⟨rfl,trivial⟩
 rintro⟨m,q,A⟩ ⟨k1,k2,k3,k4,k5,k6⟩
 dsimp only at k1 k2 k3 k4 k5 k6;refine Ob.o<|Br.mk (λg7=>?_) (λg7=>?_)
 ·have g7:(m:Int)+1 < (xs.length:Int) - ((i:Int)+1):=g7;refine Dr.k<|Ob.mk ⟨by ((try dsimp only);omega),by ((try dsimp only);omega),g7⟩<|Ob.o9 ?_;intro y hy'
  have hy0:A[i+m+2]? =some y:=by
   have h:A[((i:Int)+1+((m:Int)+1)).toNat]? =some y:=hy'
   rwa [show((i:Int)+1+((m:Int)+1)).toNat=i+m+2 by omega]at h
  have hy1:xs[i+m+2]? =some y:=by rw[← k6 _ oM];exact hy0
  refine Ar.o<|Ob.o23<|Ob.o9 ?_;intro u hu'
  have hu0:A[i+m+1]? =some u:=by
   have h:A[((i:Int)+1+((m:Int)+1 - 1)).toNat]? =some u:=hu'
   rwa [show((i:Int)+1+((m:Int)+1 - 1)).toNat=i+m+1 by omega]at h
  have hu1:xs[i+m+1]? =some u:=by rw[← k6 _ oM];exact hu0
  refine⟨λd=>?_,λd=>?_⟩
  ·have d:¬u=y:=λh=>d (k8.2 h.symm)
   have e:=zkc hu1 hy1 d;refine Ob.mk ⟨by ((try dsimp only);omega),by ((try dsimp only);omega),g7⟩<|Ob.o9 ?_;intro y' hy''
   have ey:y'=y:=by
    have h:A[((i:Int)+1+((m:Int)+1)).toNat]? =some y':=hy'';rw[show((i:Int)+1+((m:Int)+1)).toNat=i+m+2 by omega,hy0]at h;exact(Xj h).symm
   rw[ey];refine Ob.o9<|Ob.o9 ?_;intro t _;refine⟨y,rfl,?_⟩;refine Ar.fit (by (try dsimp only);omega)<|Ar.o ?_;have hq:((q:Int)).toNat=q:=XX q
   refine⟨(m+1,q+1,A.set q y),⟨by dsimp only;omega,by rw[X1];exact k2,?_,?_,by dsimp only;omega,λj hj=>?_⟩,
    zL [0] ⟨rfl,congrArg (λn=>some (i64 n)) (by (try dsimp only);omega),rfl,congrArg (λn=>some (i64 n)) (by (try dsimp only);omega),trivial⟩ ⟨congrArg (λa=>some (Mem.arr 35 ptE 2 a)) (by rw[hq]),trivial⟩,by dsimp only;omega⟩
   ·show(A.set q y).take (q+1)=dd xs (i+m+1+2);rw[e,← k3];have hlt:q < (A.set q y).length:=by rw[X1];omega
    rw[Xm,QP (Xh q),List.getElem?_set_self oM];rfl
   ·show q+1=(dd xs (i+m+1+2)).length;rw[e,Xi,← k4];rfl
   ·show(A.set q y)[j]? =xs[j]?;have hj:i+1+(m+1)<=j:=hj;rw[List.getElem?_set_ne oM];exact k6 j oM
  ·have d:u=y:=(k8.1 (Xa.1 d)).symm;have e:=znx hu1 hy1 d;refine Ar.o ?_
   refine⟨(m+1,q,A),⟨by dsimp only;omega,k2,?_,?_,by dsimp only;omega,λj hj=>k6 j (by dsimp only at hj;omega)⟩,
    zL [0] ⟨rfl,rfl,rfl,congrArg (λn=>some (i64 n)) oM,trivial⟩ ⟨rfl,trivial⟩,by dsimp only;omega⟩
   ·show A.take q=dd xs (i+m+1+2);rw[e];exact k3
   ·show q=(dd xs (i+m+1+2)).length;rw[e];exact k4
 ·have g7:¬(m:Int)+1 < (xs.length:Int) - ((i:Int)+1):=g7;refine Sl.win (Ob.mk ⟨by ((try dsimp only);omega),by ((try dsimp only);omega),by ((try dsimp only);omega),by ((try dsimp only);omega)⟩ ?_);refine⟨zp,rfl,Ob.o23 ?_⟩;have hq:((q:Int)).toNat=q:=XX q
  have hl:(A.take (q:Int).toNat++(List.replicate ((A.length:Int) - (q:Int)).toNat zp++A.drop ((q:Int).toNat+((A.length:Int) - (q:Int)).toNat))).length=A.length:=by
   simp only[Xi,Xk,Ke,XO];omega
  refine Sl.keep (Ob.mk ⟨rfl,by ((try dsimp only);omega),by ((try dsimp only);rw[hl];omega)⟩ ?_);refine z9 ?_;dsimp only;rw[← zrk (i:=i+m+2) oM,← k3,hq,KB (by rw[Xk];omega),Xg (by rw[Xk];omega)]
theorem zfi{p:Pl}(h:p.cl=true):(zu p).pts=qi (qX p.pts):=by unfold zu;dsimp only;rw[if_pos h]
theorem zkd{p:Pl}(h:¬p.cl=true):(zu p).pts=qX p.pts:=by unfold zu;dsimp only;rw[if_neg h]
theorem zhn(l:List Pt):(qX l).length<=l.length:=by
 rw[← zpI];have:=vq l []
 simpa using this
theorem zny{p:Pl}(h:(zu p).pts=q):LE (.agg [.sl ptE q,pr (p.cl=true)]) (.agg (plE (zu p))):=by
 subst h;exact .refl
theorem zgn(p:Pl)(hp:p.pts.length<=4096):CG0 186 [.agg (plE p)] [] (.agg (plE (zu p))) []:=by
 refine zc Tryz.func186 ?_;refine zb.fresh _ _ (znf p.pts hp) rfl (λ_ _=>rfl) (.inr (λ_ _=>rfl))<|zb.give [2] 0 [.own 0] [(0,.arr 35 ptE 2 p.pts)] [] (.sl ptE (qX p.pts)) (zuf p.pts hp) LEs.refl rfl rfl rfl ⟨⟨_,rfl,rfl,trivial⟩,trivial⟩ rfl trivial ?_;have hd:=zhn p.pts
 refine⟨List Pt,λq=>⟨[(1,.loc 0 0),(2,.loc 1 0),(3,.sl ptE q)],[(0,.box 118 [.sl ptE p.pts,pr (p.cl=true)]),(1,.box 118 [.val (.slice none 0 0),.val (.bool false)])],2,36,0⟩,
  λq=>qi q=qi (qX p.pts)/\jD q/\q.length<=4096/\(¬p.cl=true->q=qX p.pts),λq=>q.length,qX p.pts,?_,?_,?_⟩
 ·exact⟨rfl,ud _,oM,λ_=>rfl⟩
 ·exact zf [0,1]
 rintro q ⟨t1,t2,t3,t4⟩
 refine Dr.k<|Br.mk (λc=>?_) (λc=>?_);rotate_left
 ·have c:¬p.cl=true:=c;exact zny (by rw[zkd c,t4 c])
 have c:p.cl=true:=c;have fin:qi q=q->LE (.agg [.sl ptE q,pr (p.cl=true)]) (.agg (plE (zu p))):=λh=>zny (by rw[zfi c,← t1,h])
 intro hl1;refine⟨λm=>?_,λm=>?_⟩;rotate_left
 ·have m:¬(1:Int) < q.length:=m;exact fin (zgl oM)
 have m:(1:Int) < q.length:=m;intro hl2;refine Ar.o<|Ob.o ?_;intro z hz
 have hz:q[q.length - 1]? =some z:=by
  have hz:q[((q.length:Int) - 1).toNat]? =some z:=hz
  rwa [show((q.length:Int) - 1).toNat=q.length - 1 by omega]at hz
 refine Ob.o ?_;intro f hf;have hf:q[0]? =some f:=hf;refine⟨λk=>?_,λk=>?_⟩
 ·have k:z=f:=k8.1 k;have et:=zgk (show 1 < q.length by omega) hz hf k;intro hl4;refine Ar.o<|Ob.mk ⟨⟨dC,oM,oM,oM⟩,λ_ _=>rfl⟩<|⟨q.take (q.length - 1),⟨?_,?_,?_,λh=>absurd c h⟩,zL [0,1] ⟨rfl,rfl,congrArg (λq=>some (SV.sl ptE q)) (by rw[show((q.length:Int) - 1 - 0).toNat=q.length - 1 by omega];rfl),trivial⟩ ⟨rfl,rfl,trivial⟩,?_⟩
  ·rw[← et,zhm t2,t1]
  ·rw[← et];exact za5 t2
  ·rw[Xk];omega
  ·show(q.take (q.length - 1)).length < q.length;rw[Xk];omega
 ·have k:¬z=f:=λh=>k (k8.2 h)
  exact fin (ziy hz hf k)
theorem ziz(p:Pl)(hp:p.pts.length<=4096):CG0 131 [.agg (plE p)] [] (.agg (plE (zu p))) []:=by
 refine zcD 1 tok mix Tryz.func131 rfl rfl rfl<|⟨Pt,ptE,[],rfl,Ob.o2 ?_⟩
 refine⟨Nat,λi=>⟨[(1,.loc 0 0),(2,.loc 1 0),(3,.loc 2 0),(4,i64 (i:Int))],
   [(0,.box 118 [.sl ptE p.pts,pr (p.cl=true)]),(1,.box 118 [.val (.slice none 0 0),.val (.bool false)]),(2,.box 118 [.own 3,pr (p.cl=true)]),(3,.arr 35 ptE 2 (dd p.pts i))],4,74,0⟩,
  λi=>i<=p.pts.length,λi=>p.pts.length - i,0,?_,?_,?_⟩
 ·exact Xe _
 ·exact zf [0,1,3,2]
 rintro i hi
 have dl:=zBu p.pts i;intro hl1;refine⟨λg=>?_,λg=>?_⟩
 ·have g:(i:Int) < p.pts.length:=g;obtain⟨x,hx⟩:∃x,p.pts[i]? =some x:=⟨_,Xb oM⟩;have same:∀{y:Pt},p.pts[(i:Int).toNat]? =some y->y=x:=λh=>Xj ((show p.pts[i]? =some _ from h).symm.trans hx)
  refine Dr.d<|Br.mk (λz=>?_) (λz=>?_)
  ·have z:(i:Int)=0:=z;refine Ob.mk (by kernel_rfl)<|Dr.d<|Ob.o ?_;intro y hy;rw[same hy];refine⟨Pt,ptE,[x],rfl,Ob.o0 ?_⟩;refine⟨[x],rfl,Ob.o3 ?_⟩;refine Ob.mk (by kernel_rfl)<|Ar.o ?_;have i0:i=0:=oM;subst i0;refine⟨1,oM,zC [0,1,2,5] ⟨rfl,rfl,rfl,congrArg (λq=>some (Mem.arr 35 ptE 2 q)) ?_,trivial⟩,by dsimp only;omega⟩;rw[zgm hx];rfl
  have z:¬(i:Int)=0:=z;obtain⟨n,rfl⟩:∃n,i=n+1:=⟨i - 1,oM⟩;refine Ob.o ?_;intro y hy;rw[same hy];refine Ar.o<|Ob.o ?_;intro u hu
  have hu:p.pts[n]? =some u:=by
   have h:p.pts[(((n+1:Nat):Int) - 1).toNat]? =some u:=hu
   rwa [show(((n+1:Nat):Int) - 1).toNat=n by omega]at h
  refine Ob.mk (by kernel_rfl)<|⟨λk=>?_,λk=>?_⟩
  ·have k:¬u=x:=λh=>k (k8.2 h.symm)
   refine Dr.d<|Ob.o ?_;intro y hy;rw[same hy];refine⟨Pt,ptE,[x],rfl,Ob.o0 ?_⟩;refine⟨[x],rfl,Ob.o3 ?_⟩;refine Ob.mk (by kernel_rfl)<|Ar.o<|⟨n+2,oM,zL [0,1,2,5] ⟨rfl,rfl,rfl,congrArg (λn=>some (i64 n)) oM,trivial⟩ ⟨rfl,rfl,rfl,congrArg (λq=>some (Mem.arr 35 ptE 2 q)) ?_,trivial⟩,by dsimp only;omega⟩;rw[zkc hu hx k]
  ·have k:u=x:=(k8.1 (Xa.1 k)).symm;refine Ar.o<|⟨n+2,oM,zL [0,1,2,3] ⟨rfl,rfl,rfl,congrArg (λn=>some (i64 n)) oM,trivial⟩ ⟨rfl,rfl,rfl,congrArg (λq=>some (Mem.arr 35 ptE 2 q)) ?_,trivial⟩,by dsimp only;omega⟩;rw[znx hu hx k]
 have g:¬(i:Int) < p.pts.length:=g;have hd:=zhn p.pts
 refine⟨List Pt,λq=>⟨[(1,.loc 0 0),(2,.loc 1 0),(3,.loc 2 0)],
   [(0,.box 118 [.sl ptE p.pts,pr (p.cl=true)]),(1,.box 118 [.val (.slice none 0 0),.val (.bool false)]),(2,.box 118 [.own 3,pr (p.cl=true)]),(3,.arr 35 ptE 2 q)],4,74,0⟩,
  λq=>qi q=qi (qX p.pts)/\jD q/\q.length<=4096/\(¬p.cl=true->q=qX p.pts),λq=>q.length,qX p.pts,?_,?_,?_⟩
 ·exact⟨rfl,ud _,oM,λ_=>rfl⟩
 ·exact zC [0,1,2,3] ⟨rfl,rfl,rfl,congrArg (λq=>some (Mem.arr 35 ptE 2 q)) (zrk oM),trivial⟩
 rintro q ⟨t1,t2,t3,t4⟩
 refine Dr.d<|Br.mk (λc=>?_) (λc=>?_);rotate_left
 ·have c:¬p.cl=true:=c;exact Ob.mk (by kernel_rfl)<|zny (by rw[zkd c,t4 c])
 have c:p.cl=true:=c;have fin:qi q=q->LE (.agg [.sl ptE q,pr (p.cl=true)]) (.agg (plE (zu p))):=λh=>zny (by rw[zfi c,← t1,h])
 intro hl1;refine⟨λm=>?_,λm=>?_⟩;rotate_left
 ·have m:¬(1:Int) < q.length:=m;exact Ob.mk (by kernel_rfl)<|fin (zgl oM)
 have m:(1:Int) < q.length:=m;intro hl2;refine Ar.o<|Ob.o<|Ob.o ?_;intro z hz
 have hz:q[q.length - 1]? =some z:=by
  have hz:q[((q.length:Int) - 1).toNat]? =some z:=hz
  rwa [show((q.length:Int) - 1).toNat=q.length - 1 by omega]at hz
 refine Ob.o<|Ob.o ?_;intro f hf;have hf:q[0]? =some f:=hf;refine Ob.mk (by kernel_rfl)<|⟨λk=>?_,λk=>?_⟩
 ·have k:z=f:=k8.1 k;have et:=zgk (show 1 < q.length by omega) hz hf k;intro hl4;refine Ar.o<|Sl.keep (Ob.mk ⟨rfl,oM,oM⟩ ?_);refine⟨q.take (q.length - 1),⟨?_,?_,?_,λh=>absurd c h⟩,zC [0,1,2,4] ⟨rfl,rfl,rfl,congrArg (λq=>some (Mem.arr 35 ptE 2 q)) (by rw[show((q.length:Int) - 1).toNat=q.length - 1 by omega]),trivial⟩,?_⟩
  ·rw[← et,zhm t2,t1]
  ·rw[← et];exact za5 t2
  ·rw[Xk];omega
  ·show(q.take (q.length - 1)).length < q.length;rw[Xk];omega
 ·have k:¬z=f:=λh=>k (k8.2 h)
  exact fin (ziy hz hf k)
end Go.Gs
