/- Points put behind a polyline, the points of a segment, both texts. -/
import Derived.Test.YtplllpkdmehklaaGreatDoorMA
import Derived.Test.YtplllpkdmehklaaGreatDoorMBJ
import Derived.Test.YtplllpkdmehklaaGreatDoorMAR
set_option maxRecDepth 100000
set_option maxHeartbeats 8000000
set_option linter.all false
namespace Go.Gs
open Go.Proofs
theorem zqH{α:Type _}{A:List α}{z y:α}{n:Nat}(h:(A++[z])[n]? =some y)(hn:n=A.length):y=z:=by
 subst hn;simp at h;exact h.symm
theorem zmN{α:Type _}{A:List α}{z w:α}{n:Nat}(hn:n=A.length):(A++[z]).set n w=A++[w]:=by
 subst hn;simp
def ju(cl:List Pl)(k:Nat)(b:SV):List (List SV):=cl.map plE++[[SV.own k,b]]
theorem vP(cl:List Pl)(k:Nat)(b:SV):(ju cl k b).length=cl.length+1:=by unfold ju;simp
theorem zoR(ks:List Nat)(κ:Nat)(cl:List Pl)(k:Nat)(p:Prop)(i:Decidable p):(ju cl k (.pr p i)).map (zac.rens ks κ)=ju cl (rn ks κ k) (.pr p i):=by
 unfold ju;rw [List.map_append,List.map_map];rfl
theorem zw0{n k:Nat}(h:Nat.blt k n=true)(cl:List Pl)(p:Prop)(i:Decidable p):∀x∈ju cl k (.pr p i),vh.lows n x=true:=fun x hx=>by
 rcases List.mem_append.1 hx with hx | hx
 ·obtain ⟨q,_,rfl⟩:=List.mem_map.1 hx;rfl
 ·rw [List.mem_singleton.1 hx];simp only [vh.lows,vh,h]
theorem zw1{n k:Nat}(h:Nat.blt k n=true)(cl:List Pl)(p:Prop)(i:Decidable p):∀x∈ju cl k (.pr p i),zbR.outs n x=true:=fun x hx=>by
 rcases List.mem_append.1 hx with hx | hx
 ·obtain ⟨q,_,rfl⟩:=List.mem_map.1 hx;rfl
 ·rw [List.mem_singleton.1 hx];simp only [zbR.outs,zbR,h]
theorem vF{tb:List (Nat×Option Nat)}{cl:List Pl}{a b:Nat}{p:Prop}{i:Decidable p}(h:zaC tb b=some (some a)):
  (ju cl a (.pr p i)).length=(ju cl b (.pr p i)).length/\∀(j:Nat) x,(ju cl b (.pr p i))[j]? =some x->∃x',(ju cl a (.pr p i))[j]? =some x'/\ren.rens tb x=some x':=by
 refine ⟨by rw [vP,vP],fun j x hx=>?_⟩;unfold ju at hx ⊢;rw [List.getElem?_append] at hx
 split at hx
 ·rename_i hi;rw [List.getElem?_map] at hx
  cases hy:cl[j]? with
  | none=>simp [hy] at hx
  | some y=>
   simp [hy] at hx;subst hx;exact ⟨plE y,by rw [List.getElem?_append_left hi,List.getElem?_map,hy];rfl,rfl⟩
 ·rename_i hi
  have h0:j - (cl.map plE).length=0:=by
   have:=(List.getElem?_eq_some_iff.1 hx).1;simp at this;simp at hi ⊢;omega
  rw [h0] at hx;simp at hx;subst hx;refine ⟨[.own a,.pr p i],by rw [List.getElem?_append_right oM,h0];rfl,?_⟩;simp only [ren.rens,ren,h]
theorem zmO(q:List Pt)(x:Pt):(yk q x).length<=q.length+1:=by
 unfold yk;split
 ·omega
 ·simp
theorem zfN:∀(more q:List Pt),(qc q more).length<=q.length+more.length
 | [],q=>by simp [qc]
 | x::r,q=>by
  have h1:=zfN r (yk q x);have h2:=zmO q x;have e:qc q (x::r)=qc (yk q x) r:=rfl;rw [e,List.length_cons];omega
theorem zlf{q more:List Pt}{i:Nat}{x:Pt}(h:more[i]? =some x):qc q (more.take (i+1))=yk (qc q (more.take i)) x:=by
 unfold qc;rw [List.take_add_one,h];simp [List.foldl_append]
theorem zw2{q:List Pt}{x z:Pt}(h:q[q.length - 1]? =some z)(e:z=x):yk q x=q:=by
 unfold yk;rw [List.getLast?_eq_getElem?,h,e,if_pos rfl]
theorem zse{q:List Pt}{x z:Pt}(h:q[q.length - 1]? =some z)(e:¬z=x):yk q x=q++[x]:=by
 unfold yk;rw [List.getLast?_eq_getElem?,h,if_neg (fun k=>e (Option.some.inj k))]
theorem zzn{q:List Pt}{x:Pt}(h:q.length=0):yk q x=q++[x]:=by
 rw [List.eq_nil_of_length_eq_zero h];rfl
theorem zBM(cl:List Pl)(q more:List Pt)(B:Prop)[iB:Decidable B](hq:q.length<=100000)(hm:more.length<=64)(hcl:cl.length<=300):
  zd Tryz.prog 172 [.eloc 0 2 (cl.length:Int) 0,.sl ptE more] [(0,.garr 186 2 (ju cl 1 (pr B))),(1,.arr 63 ptE 2 q)] (.tup [])
   [(0,.garr 186 2 (ju cl 2 (pr B))),(2,.arr 63 ptE 2 (qc q more))]:=by
 refine zaE tok mix Tryz.func172 rfl rfl rfl ?_;intro hl1
 refine ⟨Nat,fun i=>⟨[(0,.eloc 0 2 (cl.length:Int) 0),(7,.sl ptE more),(8,i64 (more.length:Int)),(9,i64 (i:Int))],
   [(0,.garr 186 2 (ju cl 2 (pr B))),(2,.arr 63 ptE 2 (qc q (more.take i)))],3,43,2⟩,fun i=>i<=more.length,fun i=>more.length - i,0,?_,?_,?_⟩
 ·exact Nat.zero_le _
 ·exact zY [(0,some 0),(1,some 1),(2,some 1)] ⟨⟨_,rfl,vF rfl⟩,rfl,trivial⟩
 rintro i hi
 have hlen:=zfN (more.take i) q;rw [List.length_take] at hlen;have hcell:∀{y:List SV} {k:Nat} {b:SV},(ju cl k b)[(cl.length:Int).toNat]? =some y->y=[.own k,b]:=fun h=>zqH h (by simp)
 have hcn:(cl.length:Int).toNat=(cl.map plE).length:=by simp
 have hset:∀(k:Nat) (b:SV) (w:List SV),(ju cl k b).set (cl.length:Int).toNat w=cl.map plE++[w]:=fun k b w=>by unfold ju;exact zmN hcn
 have hrow:0<=(cl.length:Int)/\(cl.length:Int) < (ju cl 2 (pr B)).length:=by rw [vP];omega
 refine Br.mk (fun g=>?_) (fun g=>?_)
 ·have g:(i:Int) < more.length:=g;refine Ob.o ?_;intro x hx;have hx:more[i]? =some x:=hx;have e:=zlf (q:=q) hx;refine Ob.mk hrow ?_;intro y hy;obtain rfl:=hcell hy;intro hl2
  have yes:qc q (more.take (i+1))=(qc q (more.take i))++[x]->∀{σ:St},Sub σ ⟨[(0,.eloc 0 2 (cl.length:Int) 0),(7,.sl ptE more),(8,i64 (more.length:Int)),(9,i64 ((i+1:Nat):Int))],
    [(0,.garr 186 2 (ju cl 2 (pr B))),(2,.arr 63 ptE 2 ((qc q (more.take i))++[x]))],3,43,2⟩->Sub σ ⟨[(0,.eloc 0 2 (cl.length:Int) 0),(7,.sl ptE more),(8,i64 (more.length:Int)),(9,i64 ((i+1:Nat):Int))],
    [(0,.garr 186 2 (ju cl 2 (pr B))),(2,.arr 63 ptE 2 (qc q (more.take (i+1))))],3,43,2⟩:=fun h σ k=>by rw [h];exact k
  refine Dr.d ?_;refine Br.mk (fun z=>?_) (fun z=>?_)
  ·have z:((qc q (more.take i)).length:Int)=0:=z;refine Ob.mk (by kernel_rfl) ?_;refine Dr.d ?_;refine Ob.mk hrow ?_;intro y hy;obtain rfl:=hcell hy;refine ⟨Pt,ptE,[x],rfl,Ob.o0 ?_⟩;refine ⟨[x],rfl,Ob.o11 ?_⟩;refine Ob.mk hrow ?_;intro y hy;obtain rfl:=hcell hy;refine Ob.mk (by kernel_rfl) ?_;refine Ar.o ?_;refine ⟨i+1,oM,yes (by rw [e,zzn oM]) (zY [(0,some 0),(1,some 1),(2,some 5)] ⟨⟨_,congrArg (fun q=>some (Mem.garr 186 2 q)) (hset _ _ _),vF rfl⟩,rfl,trivial⟩),by dsimp only;omega⟩
  have z:¬((qc q (more.take i)).length:Int)=0:=z;refine Ob.mk hrow ?_;intro y hy;obtain rfl:=hcell hy;refine Ar.o ?_;refine Ob.o ?_;refine Ob.o ?_;intro t ht
  have ht:(qc q (more.take i))[(qc q (more.take i)).length - 1]? =some t:=by
   have ht:(qc q (more.take i))[(((qc q (more.take i)).length:Int) - 1).toNat]? =some t:=ht
   rwa [show (((qc q (more.take i)).length:Int) - 1).toNat=(qc q (more.take i)).length - 1 by omega] at ht
  refine Ob.mk (by kernel_rfl) ?_;refine Br.mk (fun k=>?_) (fun k=>?_)
  ·have k:¬t=x:=fun h=>k (qJ.2 h)
   refine Dr.d ?_;refine Ob.mk hrow ?_;intro y hy;obtain rfl:=hcell hy;refine ⟨Pt,ptE,[x],rfl,Ob.o0 ?_⟩;refine ⟨[x],rfl,Ob.o11 ?_⟩;refine Ob.mk hrow ?_;intro y hy;obtain rfl:=hcell hy;refine Ob.mk (by kernel_rfl) ?_;refine Ar.o ?_;refine ⟨i+1,oM,yes (by rw [e,zse ht k]) (zY [(0,some 0),(1,some 1),(2,some 5)] ⟨⟨_,congrArg (fun q=>some (Mem.garr 186 2 q)) (hset _ _ _),vF rfl⟩,rfl,trivial⟩),by dsimp only;omega⟩
  ·have k:t=x:=qJ.1 (Decidable.not_not.1 k);refine Ar.o ?_;refine ⟨i+1,oM,zY [(0,some 0),(1,some 1),(2,some 2)] ⟨⟨_,rfl,vF rfl⟩,congrArg (fun q=>some (Mem.arr 63 ptE 2 q)) (by rw [e,zw2 ht k]),trivial⟩,by dsimp only;omega⟩
 ·have g:¬(i:Int) < more.length:=g;have e:more.take i=more:=List.take_of_length_le oM;exact ⟨_,.refl,congrArg (fun l=>[(0,Mem.garr 186 2 (ju cl 2 (pr B))),(2,Mem.arr 63 ptE 2 (qc q l))]) e,.refl⟩
theorem zw3{p:Pt}{s:Sg}{tol:Int}(h:s.v=3):q9 p s tol=zaK p s.a s.b tol:=by unfold q9;rw [if_pos h]
theorem zw4{p:Pt}{s:Sg}{tol:Int}(h3:¬s.v=3)(h:s.v=4):q9 p s tol=zaL p s.a s.b s.c tol:=by unfold q9;rw [if_neg h3,if_pos h]
theorem zw5{p:Pt}{s:Sg}{tol:Int}(h3:¬s.v=3)(h:¬s.v=4):q9 p s tol=([s.a],0):=by unfold q9;rw [if_neg h3,if_neg h]
theorem p_seg(p:Pt)(s:Sg)(tol:Int)(hp:zn p)(hs:zn s.a/\zn s.b/\zn s.c):zd Tryz.prog 171 [.agg (ptE p),.agg (sgE s),i64 tol] [] (zwY (q9 p s tol)) []:=by
 refine zc tok mix Tryz.func171 rfl rfl rfl ?_;refine Br.mk (fun h3=>?_) (fun h3=>?_)
 ·have h3:s.v=3:=h3;refine zb.t (zBK p s.a s.b tol hp hs.1 hs.2.1) ?_;rw [zw3 h3];exact .refl
 have h3:¬s.v=3:=h3;refine Br.mk (fun h4=>?_) (fun h4=>?_)
 ·have h4:s.v=4:=h4;refine zb.t (zBL p s.a s.b s.c tol hp hs.1 hs.2.1 hs.2.2) ?_;rw [zw4 h3 h4];exact .refl
 have h4:¬s.v=4:=h4;refine ⟨Pt,ptE,[s.a],rfl,Ob.o0 ?_⟩;exact zqG (zw5 h3 h4)
theorem zmP{cl:List Pl}{k:Nat}{b:SV}{y:List SV}{n:Int}(hn:n=(cl.length:Int))(h:(ju cl k b)[n.toNat]? =some y):y=[.own k,b]:=by
 subst hn;exact zqH h (by simp)
theorem zfO{cl:List Pl}{k:Nat}{b:SV}{w:List SV}{n:Int}(hn:n=(cl.length:Int)):(ju cl k b).set n.toNat w=cl.map plE++[w]:=by
 subst hn;exact zmN (by simp)
theorem zdl{cl:List Pl}{k:Nat}{b:SV}{w y:List SV}{n:Int}(hn:n=(cl.length:Int))(h:((ju cl k b).set n.toNat w)[n.toNat]? =some y):y=w:=by
 rw [zfO hn] at h;subst hn;exact zqH h (by simp)
theorem zt4{cl:List Pl}{k:Nat}{b:SV}{w w':List SV}{n:Int}(hn:n=(cl.length:Int)):((ju cl k b).set n.toNat w).set n.toNat w'=cl.map plE++[w']:=by
 rw [zfO hn];subst hn;exact zmN (by simp)
theorem zoS{cl:List Pl}{p:Pl}{a:Nat}(T:List (List SV)):
  ∀(i j:Nat) (x':List SV) (s':SV),((cl++[p]).map plE++T)[i]? =some x'->x'[j]? =some s'->∃(x:List SV) (s:SV),(ju cl a (pr (p.cl=true))++T)[i]? =some x/\x[j]? =some s/\(s'=s∨(s=.own a/\s'=.sl ptE p.pts)):=by
 intro i j x' s' hx hs;unfold ju;rw [List.map_append] at hx;generalize cl.map plE=L at*
 rcases Nat.lt_trichotomy i L.length with h | h | h
 ·rw [List.append_assoc,List.getElem?_append_left h] at hx;exact ⟨x',s',by rw [List.append_assoc,List.getElem?_append_left h];exact hx,hs,.inl rfl⟩
 ·subst h;rw [List.append_assoc,List.getElem?_append_right (Nat.le_refl _)] at hx;simp at hx;subst hx;refine ⟨[.own a,pr (p.cl=true)],?_⟩
  match j,hs with
  | 0,hs=>simp [plE] at hs;subst hs;exact ⟨.own a,by simp,rfl,.inr ⟨rfl,rfl⟩⟩
  | 1,hs=>simp [plE] at hs;subst hs;exact ⟨pr (p.cl=true),by simp,rfl,.inl rfl⟩
  | j+2,hs=>simp [plE] at hs
 ·rw [List.getElem?_append_right (by simp;omega)] at hx;refine ⟨x',s',?_,hs,.inl rfl⟩;rw [List.getElem?_append_right (by simp;omega)];rw [← hx];congr 1;simp
theorem zzo(p:Pt)(s:Sg)(tol:Int):(q9 p s tol).1.length<=64:=by
 unfold q9
 split
 ·unfold zaK;split
  ·exact Nat.zero_le _
  ·rename_i h;have ok:=(uO (show (jd _ tol _).2=0 from Decidable.not_not.1 h)).1;have ok:1<=(jE p s.a s.b tol).1/\(jE p s.a s.b tol).1<=64:=ok;dsimp only;rw [zdk];omega
 ·split
  ·unfold zaL;split
   ·exact Nat.zero_le _
   ·rename_i h;have ok:=(uO (show (jd _ tol _).2=0 from Decidable.not_not.1 h)).1;have ok:1<=(jF p s.a s.b s.c tol).1/\(jF p s.a s.b s.c tol).1<=64:=ok;dsimp only;rw [zdk];omega
  ·show 1<=64;decide
theorem zw6{l:List Pt}{z:Pt}(h:l[l.length - 1]? =some z):zaN l=z:=by
 unfold zaN;rw [List.getLastD_eq_getLast?,List.getLast?_eq_getElem?,h];rfl
theorem zlg{l:List Pl}{i:Nat}{x:Pl}(h:l[i]? =some x):yw (l.take (i+1))=yw (l.take i)+x.pts.length:=by
 unfold yw;rw [List.take_add_one,h];simp
theorem zsf{l:List Pl}{B:Nat}(h:∀q∈l,q.pts.length<=B):∀i,i<=l.length->yw (l.take i)<=B*i
 | 0,_=>Nat.zero_le _
 | i+1,hi=>by
  have hx:l[i]? =some l[i]:=List.getElem?_eq_getElem oM;rw [zlg hx];have:=zsf h i oM;have:=h _ (List.getElem_mem (show i < l.length by omega));rw [Nat.mul_succ];omega
def zt5(c:List Pl×Int):SV:=.tup [.sl plE c.1,i64 c.2]
theorem zBN{c:List Pl×Int}{a:List Pl}{b:Int}(h:c=(a,b)):LE (.tup [.sl plE a,i64 b]) (zt5 c):=by subst h;exact .refl
theorem yZ{c:List Pl×Int}{b:Int}(h:c=([],b)):LE (.tup [.val (.slice none 0 0),i64 b]) (zt5 c):=by subst h;exact zU zC .refl
theorem zoT{q:List Pt}{z f:Pt}(h1:1 < q.length)(hz:q[q.length - 1]? =some z)(hf:q[0]? =some f)(e:z=f):qi q=q.take (q.length - 1):=by
 unfold qi;rw [List.getLast?_eq_getElem?,hz,List.head?_eq_getElem?,hf,e,if_pos ⟨h1,rfl⟩,List.dropLast_eq_take]
theorem zsg{q:List Pt}{z f:Pt}(hz:q[q.length - 1]? =some z)(hf:q[0]? =some f)(e:¬z=f):qi q=q:=by
 unfold qi;rw [List.getLast?_eq_getElem?,hz,List.head?_eq_getElem?,hf,if_neg (fun k=>e (Option.some.inj k.2))]
theorem zoU{q:List Pt}(h:¬1 < q.length):qi q=q:=by
 unfold qi;rw [if_neg (fun k=>h k.1)]
theorem zw7(q:List Pt):(qi q).length<=q.length:=by
 unfold qi;split
 ·rw [List.length_dropLast];omega
 ·exact Nat.le_refl _
theorem zw8{tol:Int}{cl:List Pl}{p:Pl}{s:Sg}(h1:¬s.v=1):jU tol (cl++[p],0) s=if (zaO p s tol).2≠0 then ([],(zaO p s tol).2) else (cl++[(zaO p s tol).1],0):=by
 rw [zd5,if_neg h1];have e:(cl++[p]).getLastD ⟨[],false⟩=p:=by simp
 rw [e,List.dropLast_concat]
theorem zzp{s:Sg}(h:zc7 s):zn s.a/\zn s.b/\zn s.c:=⟨h.1.1,h.2.1.1,h.2.2.1⟩
theorem zw9(l:List Sg)(tol:Int):zd Tryz.prog 125 [.sl sgE l,i64 tol] [] (zt5 (kr l tol)) []:=by
 refine zc tok mix Tryz.func125 rfl rfl rfl ?_;refine zb.t (zhO l) ?_;refine Br.mk (fun a0=>yZ (by unfold kr;rw [if_pos a0])) (fun a0=>?_);have hv:=Decidable.not_not.1 a0;have hlen:=zgy hv;have ho:=(yg.1 hv).2;have bad:¬zet tol->kr l tol=([],2):=fun h=>by unfold kr;rw [qo hv,if_pos h]
 refine Br.mk (fun a1=>yZ (bad (fun h=>by have a1:tol < 1:=a1;unfold zet at h;omega))) (fun a1=>?_);refine Br.mk (fun a2=>yZ (bad (fun h=>by have a2:256 < tol:=a2;unfold zet at h;omega))) (fun a2=>?_);have ht:zet tol:=⟨by have a1:¬tol < 1:=a1;omega,by have a2:¬256 < tol:=a2;omega⟩;have eQ:kr l tol=if (ja l tol).2≠0 then ([],(ja l tol).2) else if 4096 < yw (ja l tol).1 then ([],5) else ((ja l tol).1,0):=by unfold kr;rw [qo hv,qo ht]
 intro hl3
 refine ⟨Nat×Option (List Pl×Pl),fun q=>match q with
   | (i,none)=>⟨[(1,i64 tol),(6,.val (.slice none 0 0)),(27,.sl sgE l),(28,i64 (l.length:Int)),(29,i64 (i:Int))],[],0,128,0⟩
   | (i,some (cl,p))=>⟨[(1,i64 tol),(6,.own 0),(27,.sl sgE l),(28,i64 (l.length:Int)),(29,i64 (i:Int))],[(0,.garr 186 2 (ju cl 1 (pr (p.cl=true)))),(1,.arr 63 ptE 2 p.pts)],2,128,0⟩,
  fun q=>match q with
   | (i,none)=>i=0
   | (i,some (cl,p))=>0 < i/\i<=l.length/\ja (l.take i) tol=(cl++[p],0)/\cl.length < i/\p.pts.length<=1+64*i/\∀q∈cl,q.pts.length<=20000,fun q=>l.length - q.1,(0,none),rfl,?_,?_⟩
 ·exact zf []
 rintro ⟨i,_ | ⟨cl,p⟩⟩ hI
 ·have hI:i=0:=hI;subst hI;refine Br.mk (fun g=>?_) (fun g=>?_)
  ·have g:(0:Int) < l.length:=g;refine Ob.mk ⟨dC,g⟩ ?_;intro x hx;have hx:l[0]? =some x:=hx;have hv1:x.v=1:=zop hv x hx;refine Br.mk (fun _=>?_) (fun h=>absurd hv1 h);refine ⟨Pt,ptE,[x.a],rfl,Ob.o0 ?_⟩;refine ⟨[[.own 1,.val (.bool false)]],rfl,Ob.o12 ?_⟩;refine Ob.mk ⟨by show ((1:Nat):Int)*32<=_;decide,by show 1<=_;decide,dC⟩ ?_;refine Ar.fit dC ?_;have e:=vr (tol:=tol) hx
   refine ⟨(1,some ([],⟨[x.a],false⟩)),⟨dC,oM,?_,dC,by show 1<=_;decide,fun q hq=>by cases hq⟩,
    (zdO 3 rfl (ys:=ju [] 1 (pr ((⟨[x.a],false⟩:Pl).cl=true))) (.cons (.cons .refl (.cons (ze (show ¬(false=true) by decide)) .nil)) .nil)).trans (zY [(0,some 3),(1,some 1)] ⟨⟨_,rfl,vF rfl⟩,rfl,trivial⟩),by show l.length - 1 < l.length - 0;omega⟩
   rw [e];show jU tol ([],0) x=_;rw [zd5,if_pos hv1]
  ·have g:¬(0:Int) < l.length:=g;have hl0:l=[]:=List.eq_nil_of_length_eq_zero oM;refine ⟨Unit,fun _=>⟨[(6,.val (.slice none 0 0)),(13,i64 0),(114,i64 0),(115,i64 0)],[],0,128,0⟩,fun _=>True,fun _=>0,(),trivial,?_,?_⟩
   ·exact zf []
   rintro ⟨⟩ _
   refine Br.mk (fun g=>absurd g dC) (fun _=>?_);refine Br.mk (fun g=>absurd g dC) (fun _=>?_);refine yZ ?_;rw [eQ,hl0];rfl
 obtain ⟨k0,k1,k2,k3,k4,k5⟩:0 < i/\i<=l.length/\ja (l.take i) tol=(cl++[p],0)/\cl.length < i/\p.pts.length<=1+64*i/\∀q∈cl,q.pts.length<=20000:=hI;have inv:=zfF (tol:=tol) (lo:=⟨-1048576,-1048576⟩) (hi:=⟨1048576,1048576⟩) ho (fun p hp=>zqw hv p hp) i k1 (by rw [k2]);rw [k2] at inv;obtain ⟨pne,_,pok⟩:=inv.2 p (by simp);have hp1:0 < p.pts.length:=Nat.pos_of_ne_zero fun h=>pne (List.eq_nil_of_length_eq_zero h)
 refine Br.mk (fun g=>?_) (fun g=>?_)
 ·have g:(i:Int) < l.length:=g;refine Ob.mk ⟨oM,g⟩ ?_;intro x hx;have hx:l[i]? =some x:=hx;have e:=vr (tol:=tol) hx;rw [k2] at e;have hf:=zzp (zfH ho x (List.mem_of_getElem? hx));refine Br.mk (fun v1=>?_) (fun v1=>?_)
  ·have v1:x.v=1:=v1;refine ⟨Pt,ptE,[x.a],rfl,Ob.o0 ?_⟩;refine ⟨[[.own 3,.val (.bool false)]],rfl,Ob.o12 ?_⟩;refine Ob.mk ⟨by show _*(32:Int)<=_;rw [vP];simp only [List.length_cons,List.length_nil];omega,by rw [vP];simp only [List.length_cons,List.length_nil];omega,dC⟩ ?_;refine Ar.o ?_
   refine ⟨(i+1,some (cl++[p],⟨[x.a],false⟩)),⟨oM,oM,?_,?_,?_,?_⟩,
    ((zdO 5 rfl (ys:=ju cl 1 (pr (p.cl=true))++[[.own 3,pr ((⟨[x.a],false⟩:Pl).cl=true)]]) (Rows.app .refl (.cons (.cons .refl (.cons (ze (show ¬(false=true) by decide)) .nil)) .nil))).trans
     (zb2 (sz0:=2) (T0:=186) 1 5 (enc:=ptE) (ys:=p.pts) rfl rfl (xs':=ju (cl++[p]) 3 (pr ((⟨[x.a],false⟩:Pl).cl=true))) (by simp [ju]) (fun z hz=>?_) (zoS _))).trans
     (zY [(0,some 5),(1,some 3)] ⟨⟨_,rfl,vF rfl⟩,rfl,trivial⟩),by show l.length - (i+1) < l.length - i;omega⟩
   ·rw [e,zd5,if_pos v1]
   ·simp only [List.length_append,List.length_cons,List.length_nil];omega
   ·show 1<=_;omega
   ·intro q hq
    rcases List.mem_append.1 hq with hq | hq
    ·exact k5 q hq
    ·rw [List.mem_singleton.1 hq];omega
   ·rcases List.mem_append.1 hz with hz | hz
    ·obtain ⟨w,_,rfl⟩:=List.mem_map.1 hz;rfl
    ·rw [List.mem_singleton.1 hz];rfl
  have v1:¬x.v=1:=v1;rw [zw8 v1] at e;intro hl6;refine Ar.o ?_;have hrl:=vP cl 1 (pr (p.cl=true));have hN:((ju cl 1 (pr (p.cl=true))).length:Int) - 1=cl.length:=by rw [hrl];omega
  have hrow:0<=((ju cl 1 (pr (p.cl=true))).length:Int) - 1/\((ju cl 1 (pr (p.cl=true))).length:Int) - 1 < (ju cl 1 (pr (p.cl=true))).length:=oM;refine Ob.mk hrow ?_;refine Br.mk (fun v5=>?_) (fun v5=>?_)
  ·have v5:¬x.v=5:=v5;refine Dr.d ?_;refine Ob.mk hrow ?_;intro y hy;obtain rfl:=zmP hN hy;refine Ob.mk hrow ?_;intro y hy;obtain rfl:=zmP hN hy;intro hl8;refine Ar.o ?_;refine Ob.o ?_;refine Ob.o ?_;intro z hz
   have hz:p.pts[p.pts.length - 1]? =some z:=by
    have hz:p.pts[((p.pts.length:Int) - 1).toNat]? =some z:=hz
    rwa [show ((p.pts.length:Int) - 1).toNat=p.pts.length - 1 by omega] at hz
   have hlz:=zw6 hz
   have eg:zaO p x tol=if (q9 z x tol).2≠0 then (p,(q9 z x tol).2) else (⟨qc p.pts (q9 z x tol).1,p.cl⟩,0):=by
    unfold zaO;rw [if_neg v5,hlz]
   refine zb.t (p_seg z x tol (pok z (List.mem_of_getElem? hz)) hf) ?_;refine Ob.mk (by kernel_rfl) ?_;have sl:=zzo z x tol;refine Br.mk (fun k=>?_) (fun k=>?_)
   ·have k:¬(q9 z x tol).2=0:=k;refine yZ ?_;rw [if_pos k] at eg;rw [eg,if_pos k] at e;have:=ztK hx (by rw [e];exact k);rw [e] at this;rw [eQ,this,if_pos k]
   have k:(q9 z x tol).2=0:=Decidable.not_not.1 k;rw [jQ k] at eg;rw [eg,jQ rfl] at e
   refine zb.give [0,1] 1 [.eloc 0 2 (cl.length:Int) 0,.sl ptE (q9 z x tol).1] [(0,.garr 186 2 (ju cl 1 (pr (p.cl=true)))),(1,.arr 63 ptE 2 p.pts)]
    [(0,.garr 186 2 (ju cl 2 (pr (p.cl=true)))),(2,.arr 63 ptE 2 (qc p.pts (q9 z x tol).1))] (.tup []) (zBM cl p.pts (q9 z x tol).1 (p.cl=true) oM sl oM)
    (.cons (zaD (congrArg (fun n=>SV.eloc 0 2 n 0) hN)) (.cons .refl .nil)) rfl rfl rfl ⟨⟨_,rfl,congrArg (fun q=>some (Mem.garr 186 2 q)) (zoR [0,1] _ cl 1 _ _).symm,zw0 rfl cl _ _⟩,⟨_,rfl,rfl,trivial⟩,trivial⟩ rfl ⟨⟨rfl,zw1 rfl cl _ _⟩,⟨rfl,trivial⟩,trivial⟩ ?_
   refine Ar.o ?_
   refine ⟨(i+1,some (cl,⟨qc p.pts (q9 z x tol).1,p.cl⟩)),⟨oM,oM,e,oM,?_,k5⟩,
    zY [(0,some 0),(1,some 3)] ⟨⟨_,congrArg (fun q=>some (Mem.garr 186 2 q)) (zoR [0,1] 3 cl 2 _ _),vF rfl⟩,rfl,trivial⟩,by show l.length - (i+1) < l.length - i;omega⟩
   have:=zfN (q9 z x tol).1 p.pts;show (qc p.pts (q9 z x tol).1).length<=_;omega
  ·have v5:x.v=5:=Decidable.not_not.1 v5;have eg:zaO p x tol=(⟨qi p.pts,true⟩,0):=by unfold zaO;rw [if_pos v5]
   rw [eg,jQ rfl] at e;refine Ob.mk hrow ?_;intro y hy;obtain rfl:=zmP hN hy;have hrow2:∀w:List SV,0<=((ju cl 1 (pr (p.cl=true))).length:Int) - 1/\((ju cl 1 (pr (p.cl=true))).length:Int) - 1 < ((ju cl 1 (pr (p.cl=true))).set (((ju cl 1 (pr (p.cl=true))).length:Int) - 1).toNat w).length:=fun w=>by rw [List.length_set];omega
   refine Ob.mk (hrow2 _) ?_;intro y hy;obtain rfl:=zdl hN hy;intro hl8
   have fin:∀{σ:St} (q:List Pt),qi p.pts=q->Sub σ ⟨[(1,i64 tol),(6,.own 0),(27,.sl sgE l),(28,i64 (l.length:Int)),(29,i64 ((i+1:Nat):Int))],[(0,.garr 186 2 (ju cl 1 (pr ((⟨qi p.pts,true⟩:Pl).cl=true)))),(1,.arr 63 ptE 2 q)],2,128,0⟩->
     ∃x',(match x' with
      | (i,none)=>i=0
      | (i,some (cl,p))=>0 < i/\i<=l.length/\ja (l.take i) tol=(cl++[p],0)/\cl.length < i/\p.pts.length<=1+64*i/\∀q∈cl,q.pts.length<=20000:Prop)/\
     Sub σ (match x' with
      | (i,none)=>⟨[(1,i64 tol),(6,.val (.slice none 0 0)),(27,.sl sgE l),(28,i64 (l.length:Int)),(29,i64 (i:Int))],[],0,128,0⟩
      | (i,some (cl,p))=>⟨[(1,i64 tol),(6,.own 0),(27,.sl sgE l),(28,i64 (l.length:Int)),(29,i64 (i:Int))],[(0,.garr 186 2 (ju cl 1 (pr (p.cl=true)))),(1,.arr 63 ptE 2 p.pts)],2,128,0⟩)/\l.length - x'.1 < l.length - (i,some (cl,p)).1:=fun q hq hs=>by
    refine ⟨(i+1,some (cl,⟨qi p.pts,true⟩)),⟨oM,oM,e,oM,?_,k5⟩,?_,by show l.length - (i+1) < l.length - i;omega⟩
    ·have:=zw7 p.pts;show (qi p.pts).length<=_;omega
    ·subst hq;exact hs
   refine Dr.d ?_;refine Br.mk (fun m=>?_) (fun m=>?_)
   ·have m:(1:Int) < p.pts.length:=m;refine Ob.mk (hrow2 _) ?_;intro y hy;obtain rfl:=zdl hN hy;refine Ar.o ?_;refine Ob.o ?_;refine Ob.o ?_;intro z hz
    have hz:p.pts[p.pts.length - 1]? =some z:=by
     have hz:p.pts[((p.pts.length:Int) - 1).toNat]? =some z:=hz
     rwa [show ((p.pts.length:Int) - 1).toNat=p.pts.length - 1 by omega] at hz
    refine Ob.mk (hrow2 _) ?_;intro y hy;obtain rfl:=zdl hN hy;refine Ob.o ?_;refine Ob.o ?_;intro f hf;have hf:p.pts[0]? =some f:=hf;refine Ob.mk (by kernel_rfl) ?_;refine Br.mk (fun k=>?_) (fun k=>?_)
    ·have k:z=f:=qJ.1 k;refine Ob.mk (hrow2 _) ?_;intro y hy;obtain rfl:=zdl hN hy;refine Ar.o ?_;refine Sl.keep (Ob.mk ⟨rfl,oM,oM⟩ ?_);refine Ob.mk (hrow2 _) ?_;intro y hy;obtain rfl:=zdl hN hy;refine Ar.o ?_;refine fin (p.pts.take ((p.pts.length:Int) - 1).toNat) ?_ ?_;rotate_left
     ·exact (zdO 0 (by exact congrArg (fun q=>some (Mem.garr 186 2 q)) (zt4 hN)) (ys:=ju cl 3 (pr ((⟨qi p.pts,true⟩:Pl).cl=true))) (Rows.app .refl (.cons (.cons .refl (.cons (zP rfl) .nil)) .nil))).trans
       (zY [(0,some 0),(1,some 3)] ⟨⟨_,rfl,vF rfl⟩,rfl,trivial⟩)
     rw [show ((p.pts.length:Int) - 1).toNat=p.pts.length - 1 by omega];exact zoT oM hz hf k
    ·have k:¬z=f:=fun h=>k (qJ.2 h)
     refine Ar.o ?_;refine fin p.pts (zsg hz hf k) ?_
     exact ((zdO 0 (by exact congrArg (fun q=>some (Mem.garr 186 2 q)) (zfO hN)) (ys:=ju cl 1 (pr ((⟨qi p.pts,true⟩:Pl).cl=true))) (Rows.app .refl (.cons (.cons .refl (.cons (zP rfl) .nil)) .nil))).trans
      (zY [(0,some 0),(1,some 1)] ⟨⟨_,rfl,vF rfl⟩,rfl,trivial⟩))
   ·have m:¬(1:Int) < p.pts.length:=m;refine Ob.mk (by kernel_rfl) ?_;refine Ar.o ?_;refine fin p.pts (zoU oM) ?_
    exact ((zdO 0 (by exact congrArg (fun q=>some (Mem.garr 186 2 q)) (zfO hN)) (ys:=ju cl 1 (pr ((⟨qi p.pts,true⟩:Pl).cl=true))) (Rows.app .refl (.cons (.cons .refl (.cons (zP rfl) .nil)) .nil))).trans
     (zY [(0,some 0),(1,some 1)] ⟨⟨_,rfl,vF rfl⟩,rfl,trivial⟩))
 ·have g:¬(i:Int) < l.length:=g;have hi:l.take i=l:=List.take_of_length_le oM;rw [hi] at k2
  have hout:∀q∈cl++[p],q.pts.length<=20000:=fun q hq=>by
   rcases List.mem_append.1 hq with hq | hq
   ·exact k5 q hq
   ·rw [List.mem_singleton.1 hq];omega
  have hlo:(cl++[p]).length=cl.length+1:=by simp
  rw [eQ,k2,jQ rfl];intro hl12;refine ⟨Nat,fun k=>⟨[(6,.own 0),(13,i64 (yw ((cl++[p]).take k):Int)),(113,.own 0),(114,i64 ((cl++[p]).length:Int)),(115,i64 (k:Int))],[(0,.arr 186 plE 2 (cl++[p]))],1,128,0⟩,fun k=>k<=(cl++[p]).length,fun k=>(cl++[p]).length - k,0,?_,?_,?_⟩
  ·exact Nat.zero_le _
  ·exact ((zb2 (sz0:=2) (T0:=186) 1 0 (enc:=ptE) (ys:=p.pts) rfl rfl (xs':=(cl++[p]).map plE) (by rw [vP,List.length_map,hlo]) (fun z hz=>by obtain ⟨w,_,rfl⟩:=List.mem_map.1 hz;rfl)
    (fun i j x' s' hx hs=>by have:=zoS (cl:=cl) (p:=p) (a:=1) [] i j x' s' (by rwa [List.append_nil]) hs;rwa [List.append_nil] at this)).trans (zcY 0 plE (cl++[p]) rfl (fun _ _=>rfl))).trans
    (z9 [(0,some 0)] ⟨rfl,rfl,rfl,congrArg (fun n=>some (i64 n)) (by rw [vP,hlo]),rfl,trivial⟩ ⟨rfl,trivial⟩)
  rintro k hk
  have hc:=zsf hout k hk;refine Br.mk (fun g=>?_) (fun g=>?_)
  ·have g:(k:Int) < (cl++[p]).length:=g;refine Ob.o ?_;refine Ob.o ?_;intro q hq;have hq:(cl++[p])[k]? =some q:=hq;intro hl14;have:=hout q (List.mem_of_getElem? hq);(iterate 2 refine Ar.o ?_);refine ⟨k+1,oM,z9 [(0,some 0)] ⟨rfl,congrArg (fun n=>some (i64 n)) (by rw [zlg hq];omega),rfl,rfl,rfl,trivial⟩ ⟨rfl,trivial⟩,by dsimp only;omega⟩
  ·have g:¬(k:Int) < (cl++[p]).length:=g;have hk:(cl++[p]).take k=cl++[p]:=List.take_of_length_le oM;refine Br.mk (fun m=>?_) (fun m=>?_)
   ·have m:(4096:Int) < (yw ((cl++[p]).take k):Int):=m;rw [hk] at m;exact yZ (if_pos (show 4096 < yw (cl++[p]) by omega))
   ·have m:¬(4096:Int) < (yw ((cl++[p]).take k):Int):=m;rw [hk] at m;exact zBN (if_neg (show ¬4096 < yw (cl++[p]) by omega))
theorem zt6{l:List Pt}(h:yC l):qi (qi l)=qi l:=by
 have:=ztJ h;generalize qi l=m at*;unfold qi;rw [if_neg (fun k=>this k.1 k.2)]
end Go.Gs
