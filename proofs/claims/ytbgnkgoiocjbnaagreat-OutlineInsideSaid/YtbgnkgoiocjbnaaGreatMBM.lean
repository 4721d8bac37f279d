/- Paths cut to polylines, the program's. -/
import Derived.Test.YtbgnkgoiocjbnaaGreatMA
import Derived.Test.YtbgnkgoiocjbnaaGreatMBL
set_option maxRecDepth 100000
set_option maxHeartbeats 8000000
set_option linter.all false
namespace Go.Gs
open Go.Proofs
theorem zj0{cl:List Pl}{k:Nat}{b:SV}{y:List SV}{n:Int}(hn:n=(cl.length:Int))(h:(qW cl k b)[n.toNat]? =some y):y=[.own k,b]:=by
 subst hn;exact zm7 h (by simp)
theorem zd8{cl:List Pl}{k:Nat}{b:SV}{w:List SV}{n:Int}(hn:n=(cl.length:Int)):(qW cl k b).set n.toNat w=cl.map plE++[w]:=by
 subst hn;exact zjX (by simp)
theorem zb2{cl:List Pl}{k:Nat}{b:SV}{w y:List SV}{n:Int}(hn:n=(cl.length:Int))(h:((qW cl k b).set n.toNat w)[n.toNat]? =some y):y=w:=by
 rw [zd8 hn] at h;subst hn;exact zm7 h (by simp)
theorem zpP{cl:List Pl}{k:Nat}{b:SV}{w w':List SV}{n:Int}(hn:n=(cl.length:Int)):((qW cl k b).set n.toNat w).set n.toNat w'=cl.map plE++[w']:=by
 rw [zd8 hn];subst hn;exact zjX (by simp)
theorem zl0{cl:List Pl}{p:Pl}{a:Nat}(T:List (List SV)):
  ∀(i j:Nat) (x':List SV) (s':SV),((cl++[p]).map plE++T)[i]? =some x'->x'[j]? =some s'->∃(x:List SV) (s:SV),(qW cl a (pr (p.cl=true))++T)[i]? =some x/\x[j]? =some s/\(s'=s∨(s=.own a/\s'=.sl ptE p.pts)):=by
 intro i j x' s' hx hs;unfold qW;rw [List.map_append] at hx;generalize cl.map plE=L at*
 rcases Nat.lt_trichotomy i L.length with h | h | h
 ·rw [List.append_assoc,List.getElem?_append_left h] at hx;exact ⟨x',s',by rw [List.append_assoc,List.getElem?_append_left h];exact hx,hs,.inl rfl⟩
 ·subst h;rw [List.append_assoc,List.getElem?_append_right (Nat.le_refl _)] at hx;simp at hx;subst hx;refine ⟨[.own a,pr (p.cl=true)],?_⟩
  match j,hs with
  | 0,hs=>simp [plE] at hs;subst hs;exact ⟨.own a,by simp,rfl,.inr ⟨rfl,rfl⟩⟩
  | 1,hs=>simp [plE] at hs;subst hs;exact ⟨pr (p.cl=true),by simp,rfl,.inl rfl⟩
  | j+2,hs=>simp [plE] at hs
 ·rw [List.getElem?_append_right (by simp;omega)] at hx;refine ⟨x',s',?_,hs,.inl rfl⟩;rw [List.getElem?_append_right (by simp;omega)];rw [← hx];congr 1;simp
theorem zj1(p:Pt)(s:Sg)(tol:Int):(z5 p s tol).1.length<=64:=by
 unfold z5
 split
 ·unfold uY;split
  ·exact Nat.zero_le _
  ·rename_i h;have ok:=(jn (show (kr _ tol _).2=0 from Decidable.not_not.1 h)).1;have ok:1<=(qj p s.a s.b tol).1/\(qj p s.a s.b tol).1<=64:=ok;dsimp only;rw [uI];omega
 ·split
  ·unfold uZ;split
   ·exact Nat.zero_le _
   ·rename_i h;have ok:=(jn (show (kr _ tol _).2=0 from Decidable.not_not.1 h)).1;have ok:1<=(qk p s.a s.b s.c tol).1/\(qk p s.a s.b s.c tol).1<=64:=ok;dsimp only;rw [uI];omega
  ·show 1<=64;decide
theorem zr8{l:List Pt}{z:Pt}(h:l[l.length - 1]? =some z):kP l=z:=by
 unfold kP;rw [List.getLastD_eq_getLast?,List.getLast?_eq_getElem?,h];rfl
theorem ziG{l:List Pl}{i:Nat}{x:Pl}(h:l[i]? =some x):qQ (l.take (i+1))=qQ (l.take i)+x.pts.length:=by
 unfold qQ;rw [List.take_add_one,h];simp
theorem zj2{l:List Pl}{B:Nat}(h:∀q∈l,q.pts.length<=B):∀i,i<=l.length->qQ (l.take i)<=B*i
 | 0,_=>Nat.zero_le _
 | i+1,hi=>by
  have hx:l[i]? =some l[i]:=List.getElem?_eq_getElem oM;rw [ziG hx];have:=zj2 h i oM;have:=h _ (List.getElem_mem (show i < l.length by omega));rw [Nat.mul_succ];omega
def zm9(c:List Pl×Int):SV:=.tup [.sl plE c.1,i64 c.2]
theorem zr9{c:List Pl×Int}{a:List Pl}{b:Int}(h:c=(a,b)):LE (.tup [.sl plE a,i64 b]) (zm9 c):=by subst h;exact .refl
theorem ju{c:List Pl×Int}{b:Int}(h:c=([],b)):LE (.tup [.val (.slice none 0 0),i64 b]) (zm9 c):=by subst h;exact zS ku .refl
theorem zg8{q:List Pt}{z f:Pt}(h1:1 < q.length)(hz:q[q.length - 1]? =some z)(hf:q[0]? =some f)(e:z=f):kH q=q.take (q.length - 1):=by
 unfold kH;rw [List.getLast?_eq_getElem?,hz,List.head?_eq_getElem?,hf,e,if_pos ⟨h1,rfl⟩,List.dropLast_eq_take]
theorem zj3{q:List Pt}{z f:Pt}(hz:q[q.length - 1]? =some z)(hf:q[0]? =some f)(e:¬z=f):kH q=q:=by
 unfold kH;rw [List.getLast?_eq_getElem?,hz,List.head?_eq_getElem?,hf,if_neg (fun k=>e (Option.some.inj k.2))]
theorem zg9{q:List Pt}(h:¬1 < q.length):kH q=q:=by
 unfold kH;rw [if_neg (fun k=>h k.1)]
theorem zl1(q:List Pt):(kH q).length<=q.length:=by
 unfold kH;split
 ·rw [List.length_dropLast];omega
 ·exact Nat.le_refl _
theorem zl2{tol:Int}{cl:List Pl}{p:Pl}{s:Sg}(h1:¬s.v=1):jw tol (cl++[p],0) s=if (uk p s tol).2≠0 then ([],(uk p s tol).2) else (cl++[(uk p s tol).1],0):=by
 rw [za6,if_neg h1];have e:(cl++[p]).getLastD ⟨[],false⟩=p:=by simp
 rw [e,List.dropLast_concat]
theorem ztE{s:Sg}(h:zbn s):zo s.a/\zo s.b/\zo s.c:=⟨h.1.1,h.2.1.1,h.2.2.1⟩
theorem zsa(l:List Sg)(tol:Int):zd Tryz.prog 38 [.sl sgE l,i64 tol] [] (zm9 (zI l tol)) []:=by
 refine zc tok mix Tryz.func38 rfl rfl rfl ?_;refine zb.t (zjy l) ?_;refine Br.mk (fun a0=>ju (by unfold zI;rw [if_pos a0])) (fun a0=>?_);have hv:=Decidable.not_not.1 a0;have hlen:=zau hv;have ho:=(yh.1 hv).2;have bad:¬zbY tol->zI l tol=([],2):=fun h=>by unfold zI;rw [zV hv,if_pos h]
 refine Br.mk (fun a1=>ju (bad (fun h=>by have a1:tol < 1:=a1;unfold zbY at h;omega))) (fun a1=>?_);refine Br.mk (fun a2=>ju (bad (fun h=>by have a2:256 < tol:=a2;unfold zbY at h;omega))) (fun a2=>?_);have ht:zbY tol:=⟨by have a1:¬tol < 1:=a1;omega,by have a2:¬256 < tol:=a2;omega⟩;have eQ:zI l tol=if (k7 l tol).2≠0 then ([],(k7 l tol).2) else if 4096 < qQ (k7 l tol).1 then ([],5) else ((k7 l tol).1,0):=by unfold zI;rw [zV hv,zV ht]
 intro hl3
 refine ⟨Nat×Option (List Pl×Pl),fun q=>match q with
   | (i,none)=>⟨[(1,i64 tol),(6,.val (.slice none 0 0)),(27,.sl sgE l),(28,i64 (l.length:Int)),(29,i64 (i:Int))],[],0,128,0⟩
   | (i,some (cl,p))=>⟨[(1,i64 tol),(6,.own 0),(27,.sl sgE l),(28,i64 (l.length:Int)),(29,i64 (i:Int))],[(0,.garr 85 2 (qW cl 1 (pr (p.cl=true)))),(1,.arr 52 ptE 2 p.pts)],2,128,0⟩,
  fun q=>match q with
   | (i,none)=>i=0
   | (i,some (cl,p))=>0 < i/\i<=l.length/\k7 (l.take i) tol=(cl++[p],0)/\cl.length < i/\p.pts.length<=1+64*i/\∀q∈cl,q.pts.length<=20000,fun q=>l.length - q.1,(0,none),rfl,?_,?_⟩
 ·exact zh []
 rintro ⟨i,_ | ⟨cl,p⟩⟩ hI
 ·have hI:i=0:=hI;subst hI;refine Br.mk (fun g=>?_) (fun g=>?_)
  ·have g:(0:Int) < l.length:=g;refine Ob.mk ⟨dC,g⟩ ?_;intro x hx;have hx:l[0]? =some x:=hx;have hv1:x.v=1:=ze0 hv x hx;refine Br.mk (fun _=>?_) (fun h=>absurd hv1 h);refine ⟨Pt,ptE,[x.a],rfl,Ob.o0 ?_⟩;refine ⟨[[.own 1,.val (.bool false)]],rfl,Ob.o7 ?_⟩;refine Ob.mk ⟨by show ((1:Nat):Int)*32<=_;decide,by show 1<=_;decide,dC⟩ ?_;refine Ar.fit dC ?_;have e:=j9 (tol:=tol) hx
   refine ⟨(1,some ([],⟨[x.a],false⟩)),⟨dC,oM,?_,dC,by show 1<=_;decide,fun q hq=>by cases hq⟩,
    (zd7 3 rfl (ys:=qW [] 1 (pr ((⟨[x.a],false⟩:Pl).cl=true))) (.cons (.cons .refl (.cons (ze (show ¬(false=true) by decide)) .nil)) .nil)).trans (zM [(0,some 3),(1,some 1)] ⟨⟨_,rfl,ux rfl⟩,rfl,trivial⟩),by show l.length - 1 < l.length - 0;omega⟩
   rw [e];show jw tol ([],0) x=_;rw [za6,if_pos hv1]
  ·have g:¬(0:Int) < l.length:=g;have hl0:l=[]:=List.eq_nil_of_length_eq_zero oM;refine ⟨Unit,fun _=>⟨[(6,.val (.slice none 0 0)),(13,i64 0),(114,i64 0),(115,i64 0)],[],0,128,0⟩,fun _=>True,fun _=>0,(),trivial,?_,?_⟩
   ·exact zh []
   rintro ⟨⟩ _
   refine Br.mk (fun g=>absurd g dC) (fun _=>?_);refine Br.mk (fun g=>absurd g dC) (fun _=>?_);refine ju ?_;rw [eQ,hl0];rfl
 obtain ⟨k0,k1,k2,k3,k4,k5⟩:0 < i/\i<=l.length/\k7 (l.take i) tol=(cl++[p],0)/\cl.length < i/\p.pts.length<=1+64*i/\∀q∈cl,q.pts.length<=20000:=hI;have inv:=zd0 (tol:=tol) (lo:=⟨-1048576,-1048576⟩) (hi:=⟨1048576,1048576⟩) ho (fun p hp=>zah hv p hp) i k1 (by rw [k2]);rw [k2] at inv;obtain ⟨pne,_,pok⟩:=inv.2 p (by simp);have hp1:0 < p.pts.length:=Nat.pos_of_ne_zero fun h=>pne (List.eq_nil_of_length_eq_zero h)
 refine Br.mk (fun g=>?_) (fun g=>?_)
 ·have g:(i:Int) < l.length:=g;refine Ob.mk ⟨oM,g⟩ ?_;intro x hx;have hx:l[i]? =some x:=hx;have e:=j9 (tol:=tol) hx;rw [k2] at e;have hf:=ztE (zgU ho x (List.mem_of_getElem? hx));refine Br.mk (fun v1=>?_) (fun v1=>?_)
  ·have v1:x.v=1:=v1;refine ⟨Pt,ptE,[x.a],rfl,Ob.o0 ?_⟩;refine ⟨[[.own 3,.val (.bool false)]],rfl,Ob.o7 ?_⟩;refine Ob.mk ⟨by show _*(32:Int)<=_;rw [uJ];simp only [List.length_cons,List.length_nil];omega,by rw [uJ];simp only [List.length_cons,List.length_nil];omega,dC⟩ ?_;refine Ar.o ?_
   refine ⟨(i+1,some (cl++[p],⟨[x.a],false⟩)),⟨oM,oM,?_,?_,?_,?_⟩,
    ((zd7 5 rfl (ys:=qW cl 1 (pr (p.cl=true))++[[.own 3,pr ((⟨[x.a],false⟩:Pl).cl=true)]]) (Rows.app .refl (.cons (.cons .refl (.cons (ze (show ¬(false=true) by decide)) .nil)) .nil))).trans
     (zdI (sz0:=2) (T0:=85) 1 5 (enc:=ptE) (ys:=p.pts) rfl rfl (xs':=qW (cl++[p]) 3 (pr ((⟨[x.a],false⟩:Pl).cl=true))) (by simp [qW]) (fun z hz=>?_) (zl0 _))).trans
     (zM [(0,some 5),(1,some 3)] ⟨⟨_,rfl,ux rfl⟩,rfl,trivial⟩),by show l.length - (i+1) < l.length - i;omega⟩
   ·rw [e,za6,if_pos v1]
   ·simp only [List.length_append,List.length_cons,List.length_nil];omega
   ·show 1<=_;omega
   ·intro q hq
    rcases List.mem_append.1 hq with hq | hq
    ·exact k5 q hq
    ·rw [List.mem_singleton.1 hq];omega
   ·rcases List.mem_append.1 hz with hz | hz
    ·obtain ⟨w,_,rfl⟩:=List.mem_map.1 hz;rfl
    ·rw [List.mem_singleton.1 hz];rfl
  have v1:¬x.v=1:=v1;rw [zl2 v1] at e;intro hl6;refine Ar.o ?_;have hrl:=uJ cl 1 (pr (p.cl=true));have hN:((qW cl 1 (pr (p.cl=true))).length:Int) - 1=cl.length:=by rw [hrl];omega
  have hrow:0<=((qW cl 1 (pr (p.cl=true))).length:Int) - 1/\((qW cl 1 (pr (p.cl=true))).length:Int) - 1 < (qW cl 1 (pr (p.cl=true))).length:=oM;refine Ob.mk hrow ?_;refine Br.mk (fun v5=>?_) (fun v5=>?_)
  ·have v5:¬x.v=5:=v5;refine Dr.d ?_;refine Ob.mk hrow ?_;intro y hy;obtain rfl:=zj0 hN hy;refine Ob.mk hrow ?_;intro y hy;obtain rfl:=zj0 hN hy;intro hl8;refine Ar.o ?_;refine Ob.o ?_;refine Ob.o ?_;intro z hz
   have hz:p.pts[p.pts.length - 1]? =some z:=by
    have hz:p.pts[((p.pts.length:Int) - 1).toNat]? =some z:=hz
    rwa [show ((p.pts.length:Int) - 1).toNat=p.pts.length - 1 by omega] at hz
   have hlz:=zr8 hz
   have eg:uk p x tol=if (z5 z x tol).2≠0 then (p,(z5 z x tol).2) else (⟨z6 p.pts (z5 z x tol).1,p.cl⟩,0):=by
    unfold uk;rw [if_neg v5,hlz]
   refine zb.t (p_seg z x tol (pok z (List.mem_of_getElem? hz)) hf) ?_;refine Ob.mk (by kernel_rfl) ?_;have sl:=zj1 z x tol;refine Br.mk (fun k=>?_) (fun k=>?_)
   ·have k:¬(z5 z x tol).2=0:=k;refine ju ?_;rw [if_pos k] at eg;rw [eg,if_pos k] at e;have:=zim hx (by rw [e];exact k);rw [e] at this;rw [eQ,this,if_pos k]
   have k:(z5 z x tol).2=0:=Decidable.not_not.1 k;rw [kF k] at eg;rw [eg,kF rfl] at e
   refine zb.give [0,1] 1 [.eloc 0 2 (cl.length:Int) 0,.sl ptE (z5 z x tol).1] [(0,.garr 85 2 (qW cl 1 (pr (p.cl=true)))),(1,.arr 52 ptE 2 p.pts)]
    [(0,.garr 85 2 (qW cl 2 (pr (p.cl=true)))),(2,.arr 52 ptE 2 (z6 p.pts (z5 z x tol).1))] (.tup []) (zvx cl p.pts (z5 z x tol).1 (p.cl=true) oM sl oM)
    (.cons (j8 (congrArg (fun n=>SV.eloc 0 2 n 0) hN)) (.cons .refl .nil)) rfl rfl rfl ⟨⟨_,rfl,congrArg (fun q=>some (Mem.garr 85 2 q)) (zlW [0,1] _ cl 1 _ _).symm,zr6 rfl cl _ _⟩,⟨_,rfl,rfl,trivial⟩,trivial⟩ rfl ⟨⟨rfl,zr7 rfl cl _ _⟩,⟨rfl,trivial⟩,trivial⟩ ?_
   refine Ar.o ?_
   refine ⟨(i+1,some (cl,⟨z6 p.pts (z5 z x tol).1,p.cl⟩)),⟨oM,oM,e,oM,?_,k5⟩,
    zM [(0,some 0),(1,some 3)] ⟨⟨_,congrArg (fun q=>some (Mem.garr 85 2 q)) (zlW [0,1] 3 cl 2 _ _),ux rfl⟩,rfl,trivial⟩,by show l.length - (i+1) < l.length - i;omega⟩
   have:=vJ (z5 z x tol).1 p.pts;show (z6 p.pts (z5 z x tol).1).length<=_;omega
  ·have v5:x.v=5:=Decidable.not_not.1 v5;have eg:uk p x tol=(⟨kH p.pts,true⟩,0):=by unfold uk;rw [if_pos v5]
   rw [eg,kF rfl] at e;refine Ob.mk hrow ?_;intro y hy;obtain rfl:=zj0 hN hy;have hrow2:∀w:List SV,0<=((qW cl 1 (pr (p.cl=true))).length:Int) - 1/\((qW cl 1 (pr (p.cl=true))).length:Int) - 1 < ((qW cl 1 (pr (p.cl=true))).set (((qW cl 1 (pr (p.cl=true))).length:Int) - 1).toNat w).length:=fun w=>by rw [List.length_set];omega
   refine Ob.mk (hrow2 _) ?_;intro y hy;obtain rfl:=zb2 hN hy;intro hl8
   have fin:∀{σ:St} (q:List Pt),kH p.pts=q->Sub σ ⟨[(1,i64 tol),(6,.own 0),(27,.sl sgE l),(28,i64 (l.length:Int)),(29,i64 ((i+1:Nat):Int))],[(0,.garr 85 2 (qW cl 1 (pr ((⟨kH p.pts,true⟩:Pl).cl=true)))),(1,.arr 52 ptE 2 q)],2,128,0⟩->
     ∃x',(match x' with
      | (i,none)=>i=0
      | (i,some (cl,p))=>0 < i/\i<=l.length/\k7 (l.take i) tol=(cl++[p],0)/\cl.length < i/\p.pts.length<=1+64*i/\∀q∈cl,q.pts.length<=20000:Prop)/\
     Sub σ (match x' with
      | (i,none)=>⟨[(1,i64 tol),(6,.val (.slice none 0 0)),(27,.sl sgE l),(28,i64 (l.length:Int)),(29,i64 (i:Int))],[],0,128,0⟩
      | (i,some (cl,p))=>⟨[(1,i64 tol),(6,.own 0),(27,.sl sgE l),(28,i64 (l.length:Int)),(29,i64 (i:Int))],[(0,.garr 85 2 (qW cl 1 (pr (p.cl=true)))),(1,.arr 52 ptE 2 p.pts)],2,128,0⟩)/\l.length - x'.1 < l.length - (i,some (cl,p)).1:=fun q hq hs=>by
    refine ⟨(i+1,some (cl,⟨kH p.pts,true⟩)),⟨oM,oM,e,oM,?_,k5⟩,?_,by show l.length - (i+1) < l.length - i;omega⟩
    ·have:=zl1 p.pts;show (kH p.pts).length<=_;omega
    ·subst hq;exact hs
   refine Dr.d ?_;refine Br.mk (fun m=>?_) (fun m=>?_)
   ·have m:(1:Int) < p.pts.length:=m;refine Ob.mk (hrow2 _) ?_;intro y hy;obtain rfl:=zb2 hN hy;refine Ar.o ?_;refine Ob.o ?_;refine Ob.o ?_;intro z hz
    have hz:p.pts[p.pts.length - 1]? =some z:=by
     have hz:p.pts[((p.pts.length:Int) - 1).toNat]? =some z:=hz
     rwa [show ((p.pts.length:Int) - 1).toNat=p.pts.length - 1 by omega] at hz
    refine Ob.mk (hrow2 _) ?_;intro y hy;obtain rfl:=zb2 hN hy;refine Ob.o ?_;refine Ob.o ?_;intro f hf;have hf:p.pts[0]? =some f:=hf;refine Ob.mk (by kernel_rfl) ?_;refine Br.mk (fun k=>?_) (fun k=>?_)
    ·have k:z=f:=qx.1 k;refine Ob.mk (hrow2 _) ?_;intro y hy;obtain rfl:=zb2 hN hy;refine Ar.o ?_;refine Sl.keep (Ob.mk ⟨rfl,oM,oM⟩ ?_);refine Ob.mk (hrow2 _) ?_;intro y hy;obtain rfl:=zb2 hN hy;refine Ar.o ?_;refine fin (p.pts.take ((p.pts.length:Int) - 1).toNat) ?_ ?_;rotate_left
     ·exact (zd7 0 (by exact congrArg (fun q=>some (Mem.garr 85 2 q)) (zpP hN)) (ys:=qW cl 3 (pr ((⟨kH p.pts,true⟩:Pl).cl=true))) (Rows.app .refl (.cons (.cons .refl (.cons (kC rfl) .nil)) .nil))).trans
       (zM [(0,some 0),(1,some 3)] ⟨⟨_,rfl,ux rfl⟩,rfl,trivial⟩)
     rw [show ((p.pts.length:Int) - 1).toNat=p.pts.length - 1 by omega];exact zg8 oM hz hf k
    ·have k:¬z=f:=fun h=>k (qx.2 h)
     refine Ar.o ?_;refine fin p.pts (zj3 hz hf k) ?_
     exact ((zd7 0 (by exact congrArg (fun q=>some (Mem.garr 85 2 q)) (zd8 hN)) (ys:=qW cl 1 (pr ((⟨kH p.pts,true⟩:Pl).cl=true))) (Rows.app .refl (.cons (.cons .refl (.cons (kC rfl) .nil)) .nil))).trans
      (zM [(0,some 0),(1,some 1)] ⟨⟨_,rfl,ux rfl⟩,rfl,trivial⟩))
   ·have m:¬(1:Int) < p.pts.length:=m;refine Ob.mk (by kernel_rfl) ?_;refine Ar.o ?_;refine fin p.pts (zg9 oM) ?_
    exact ((zd7 0 (by exact congrArg (fun q=>some (Mem.garr 85 2 q)) (zd8 hN)) (ys:=qW cl 1 (pr ((⟨kH p.pts,true⟩:Pl).cl=true))) (Rows.app .refl (.cons (.cons .refl (.cons (kC rfl) .nil)) .nil))).trans
     (zM [(0,some 0),(1,some 1)] ⟨⟨_,rfl,ux rfl⟩,rfl,trivial⟩))
 ·have g:¬(i:Int) < l.length:=g;have hi:l.take i=l:=List.take_of_length_le oM;rw [hi] at k2
  have hout:∀q∈cl++[p],q.pts.length<=20000:=fun q hq=>by
   rcases List.mem_append.1 hq with hq | hq
   ·exact k5 q hq
   ·rw [List.mem_singleton.1 hq];omega
  have hlo:(cl++[p]).length=cl.length+1:=by simp
  rw [eQ,k2,kF rfl];intro hl12;refine ⟨Nat,fun k=>⟨[(6,.own 0),(13,i64 (qQ ((cl++[p]).take k):Int)),(113,.own 0),(114,i64 ((cl++[p]).length:Int)),(115,i64 (k:Int))],[(0,.arr 85 plE 2 (cl++[p]))],1,128,0⟩,fun k=>k<=(cl++[p]).length,fun k=>(cl++[p]).length - k,0,?_,?_,?_⟩
  ·exact Nat.zero_le _
  ·exact ((zdI (sz0:=2) (T0:=85) 1 0 (enc:=ptE) (ys:=p.pts) rfl rfl (xs':=(cl++[p]).map plE) (by rw [uJ,List.length_map,hlo]) (fun z hz=>by obtain ⟨w,_,rfl⟩:=List.mem_map.1 hz;rfl)
    (fun i j x' s' hx hs=>by have:=zl0 (cl:=cl) (p:=p) (a:=1) [] i j x' s' (by rwa [List.append_nil]) hs;rwa [List.append_nil] at this)).trans (zgk 0 plE (cl++[p]) rfl (fun _ _=>rfl))).trans
    (z0 [(0,some 0)] ⟨rfl,rfl,rfl,congrArg (fun n=>some (i64 n)) (by rw [uJ,hlo]),rfl,trivial⟩ ⟨rfl,trivial⟩)
  rintro k hk
  have hc:=zj2 hout k hk;refine Br.mk (fun g=>?_) (fun g=>?_)
  ·have g:(k:Int) < (cl++[p]).length:=g;refine Ob.o ?_;refine Ob.o ?_;intro q hq;have hq:(cl++[p])[k]? =some q:=hq;intro hl14;have:=hout q (List.mem_of_getElem? hq);(iterate 2 refine Ar.o ?_);refine ⟨k+1,oM,z0 [(0,some 0)] ⟨rfl,congrArg (fun n=>some (i64 n)) (by rw [ziG hq];omega),rfl,rfl,rfl,trivial⟩ ⟨rfl,trivial⟩,by dsimp only;omega⟩
  ·have g:¬(k:Int) < (cl++[p]).length:=g;have hk:(cl++[p]).take k=cl++[p]:=List.take_of_length_le oM;refine Br.mk (fun m=>?_) (fun m=>?_)
   ·have m:(4096:Int) < (qQ ((cl++[p]).take k):Int):=m;rw [hk] at m;exact ju (if_pos (show 4096 < qQ (cl++[p]) by omega))
   ·have m:¬(4096:Int) < (qQ ((cl++[p]).take k):Int):=m;rw [hk] at m;exact zr9 (if_neg (show ¬4096 < qQ (cl++[p]) by omega))
theorem ziH{l:List Pt}(h:jF l):kH (kH l)=kH l:=by
 have:=zpy h;generalize kH l=m at*;unfold kH;rw [if_neg (fun k=>this k.1 k.2)]
def zcS(l:List Sg)(tol:Int):Nat->Nat->List Pt->Pl×Nat×Int
 | 0,i,q=>(⟨q,false⟩,i,0)
 | k+1,i,q=>match l[i]? with
  | none=>(⟨q,false⟩,i,0)
  | some s=>if s.v=1 then (⟨q,false⟩,i,0) else if s.v=5 then (⟨kH q,true⟩,i+1,0)
   else if (z5 (kP q) s tol).2≠0 then (⟨[],false⟩,0,(z5 (kP q) s tol).2) else zcS l tol k (i+1) (z6 q (z5 (kP q) s tol).1)
theorem zha{l:List Sg}{tol:Int}{i:Nat}{q:List Pt}{s:Sg}(h:l[i]? =some s):zcS l tol (l.length - i) i q=
  if s.v=1 then (⟨q,false⟩,i,0) else if s.v=5 then (⟨kH q,true⟩,i+1,0)
   else if (z5 (kP q) s tol).2≠0 then (⟨[],false⟩,0,(z5 (kP q) s tol).2) else zcS l tol (l.length - (i+1)) (i+1) (z6 q (z5 (kP q) s tol).1):=by
 have hi:=(List.getElem?_eq_some_iff.1 h).1;rw [show l.length - i=(l.length - (i+1))+1 by omega,zcS,h]
theorem ziI{l:List Sg}{tol:Int}{i:Nat}{q:List Pt}(h:l.length<=i):zcS l tol (l.length - i) i q=(⟨q,false⟩,i,0):=by
 rw [show l.length - i=0 by omega];rfl
def SubOK(l:List Sg)(tol:Int)(a:Nat)(out:List Pl)(r:Pl×Nat×Int):Prop:=
 (r.2.2≠0/\k7 l tol=([],r.2.2))∨(r.2.2=0/\a < r.2.1/\r.2.1<=l.length/\(∀y,l[r.2.1]? =some y->y.v=1)/\k7 (l.take r.2.1) tol=(out++[r.1],0)/\r.1.pts.length<=1+64*l.length)
theorem zhb{l:List Sg}{tol:Int}{a:Nat}{out:List Pl}(ho:oks 5 l):∀(k i:Nat) (q:List Pt),k=l.length - i->a < i->i<=l.length->k7 (l.take i) tol=(out++[⟨q,false⟩],0)->q.length<=1+64*i->SubOK l tol a out (zcS l tol (l.length - i) i q)
 | 0,i,q,hk,h1,h2,h3,h4=>by
  rw [ziI oM];exact .inr ⟨rfl,h1,h2,fun y hy=>by have:=(List.getElem?_eq_some_iff.1 hy).1;dsimp only at this;omega,h3,by show q.length<=_;omega⟩
 | k+1,i,q,hk,h1,h2,h3,h4=>by
  have hi:i < l.length:=oM;have hx:l[i]? =some l[i]:=List.getElem?_eq_getElem hi;have e:=j9 (tol:=tol) hx;rw [h3] at e;rw [zha hx];generalize l[i]=s at*
  by_cases v1:s.v=1
  ·rw [if_pos v1];exact .inr ⟨rfl,h1,h2,fun y hy=>by have hy:l[i]? =some y:=hy;rw [hx] at hy;rw [← Option.some.inj hy];exact v1,h3,by show q.length<=_;omega⟩
  rw [if_neg v1];rw [zl2 v1] at e
  by_cases v5:s.v=5
  ·rw [if_pos v5];have eg:uk ⟨q,false⟩ s tol=(⟨kH q,true⟩,0):=by unfold uk;rw [if_pos v5]
   rw [eg,kF rfl] at e;refine .inr ⟨rfl,by show a < i+1;omega,by show i+1<=_;omega,fun y hy=>?_,e,?_⟩
   ·have he:=zjM ho hy;have hl:zly 5 l (i+1)=s.v:=zgS hx;dsimp only at he;rw [hl,v5] at he;exact (jv.1 he).2.1.resolve_right fun h=>h.1 rfl
   ·have:=zl1 q;show (kH q).length<=_;omega
  rw [if_neg v5];have eg:uk ⟨q,false⟩ s tol=if (z5 (kP q) s tol).2≠0 then (⟨q,false⟩,(z5 (kP q) s tol).2) else (⟨z6 q (z5 (kP q) s tol).1,false⟩,0):=by unfold uk;rw [if_neg v5]
  by_cases k0:(z5 (kP q) s tol).2=0
  ·rw [kF k0] at eg ⊢;rw [eg,kF rfl] at e;have h5:=vJ (z5 (kP q) s tol).1 q;have h6:=zj1 (kP q) s tol;exact zhb ho k (i+1) _ oM oM oM e oM
  ·rw [if_pos k0] at eg ⊢;rw [eg,if_pos k0] at e;have:=zim hx (by rw [e];exact k0);rw [e] at this;exact .inl ⟨k0,this⟩
theorem zvz{p:Pt}{s:Sg}{tol:Int}(h:(z5 p s tol).2=0):(z5 p s tol).1≠[]:=by
 have up:∀(f:Int->Pt) (n:Nat),1<=n->vE f n≠[]:=fun f n hn e=>by
  have:=uI f n;rw [e] at this;simp at this;omega
 unfold z5 at h ⊢
 by_cases h3:s.v=3
 ·rw [if_pos h3] at h ⊢;have k:(qj p s.a s.b tol).2=0:=Decidable.not_not.1 fun k=>k (by rw [zeC k] at h;exact h)
  have ok:=(jn (show (kr _ tol _).2=0 from k)).1;have ok:1<=(qj p s.a s.b tol).1/\(qj p s.a s.b tol).1<=64:=ok;rw [zg6 k];dsimp only;exact up _ _ (show 1<=(qj p s.a s.b tol).1.toNat by omega)
 ·rw [if_neg h3] at h ⊢
  by_cases h4:s.v=4
  ·rw [if_pos h4] at h ⊢;have k:(qk p s.a s.b s.c tol).2=0:=Decidable.not_not.1 fun k=>k (by rw [zeE k] at h;exact h)
   have ok:=(jn (show (kr _ tol _).2=0 from k)).1;have ok:1<=(qk p s.a s.b s.c tol).1/\(qk p s.a s.b s.c tol).1<=64:=ok;rw [zg7 k];dsimp only;exact up _ _ (show 1<=(qk p s.a s.b s.c tol).1.toNat by omega)
  ·rw [if_neg h4];simp
def subE(r:Pl×Nat×Int):SV:=.tup [.agg (plE r.1),i64 (r.2.1:Int),i64 r.2.2]
theorem zna{q more:List Pt}{z:Pt}(h:more[more.length - 1]? =some z):kP (z6 q more)=z:=by
 have hne:more≠[]:=fun e=>by rw [e] at h;simp at h
 unfold kP;rw [List.getLastD_eq_getLast?,zik more q hne,List.getLast?_eq_getElem?,h];rfl
theorem zpQ(l:List Sg)(a:Nat)(x:Sg)(tol:Int)(hx:l[a]? =some x)(hlen:l.length<=300):
  zd Tryz.prog 81 [.sl sgE l,i64 (a:Int),i64 tol] [] (subE (zcS l tol (l.length - (a+1)) (a+1) [x.a])) []:=by
 have ha:=(List.getElem?_eq_some_iff.1 hx).1;refine zdg 1 tok mix Tryz.func81 rfl rfl rfl ?_;refine Ob.o4 ?_;intro x' hx';have ex:x'=x:=Option.some.inj ((show l[a]? =some x' from hx').symm.trans hx);rw [ex];refine ⟨Pt,ptE,[x.a],rfl,Ob.o0 ?_⟩;refine Ar.o ?_;generalize hR:zcS l tol (l.length - (a+1)) (a+1) [x.a]=R
 refine ⟨Nat×List Pt,fun s=>⟨[(0,.sl sgE l),(2,i64 tol),(6,.loc 0 0),(9,.loc 1 0),(10,.loc 2 0),(11,i64 (s.1:Int))],
   [(0,.box 85 [.val (.slice none 0 0),.val (.bool false)]),(1,.box 52 (ptE (kP s.2))),(2,.box 85 [.own 3,.val (.bool false)]),(3,.arr 52 ptE 2 s.2)],4,102,0⟩,
  fun s=>a < s.1/\s.1<=l.length/\zcS l tol (l.length - s.1) s.1 s.2=R/\jF s.2/\s.2≠[]/\s.2.length<=1+64*s.1,fun s=>l.length - s.1,(a+1,[x.a]),?_,?_,?_⟩
 ·exact ⟨by dsimp only;omega,by dsimp only;omega,hR,⟨fun _ h=>(by cases h),trivial⟩,by simp,by show 1<=_;omega⟩
 ·exact z0 [(0,some 0),(1,some 1),(2,some 3),(3,some 2)] ⟨rfl,rfl,rfl,rfl,rfl,congrArg (fun n=>some (i64 n)) (show ((a+1:Nat):Int)=(a:Int)+1 by omega).symm,trivial⟩ ⟨rfl,rfl,rfl,rfl,trivial⟩
 rintro ⟨i,q⟩ ⟨h1,h2,h3,h4,h5,h6⟩
 dsimp only at h1 h2 h3 h4 h5 h6;have hq1:0 < q.length:=Nat.pos_of_ne_zero fun h=>h5 (List.eq_nil_of_length_eq_zero h)
 have out:(l.length<=i∨∃s,l[i]? =some s/\s.v=1)->R=(⟨q,false⟩,i,0):=fun h=>by
  rw [← h3]
  rcases h with h | ⟨s,hs,hv⟩
  ·exact ziI h
  ·rw [zha hs,if_pos hv]
 have fin:R=(⟨q,false⟩,i,0)->LE (.tup [.agg [.sl ptE q,bl false],i64 (i:Int),i64 0]) (subE R):=fun h=>by
  rw [h];exact ue (.cons (jJ (.cons .refl (.cons (ze (show ¬(false=true) by decide)) .nil))) (.cons .refl (.cons .refl .nil)))
 intro hl1;refine Br.mk (fun g=>?_) (fun g=>?_);rotate_left
 ·have g:¬(i:Int) < l.length:=g;exact fin (out (.inl oM))
 have g:(i:Int) < l.length:=g;refine Ob.o ?_;intro s hs;have hs:l[i]? =some s:=hs;refine Br.mk (fun v1=>?_) (fun v1=>?_);rotate_left
 ·have v1:s.v=1:=Decidable.not_not.1 v1;exact fin (out (.inr ⟨s,hs,v1⟩))
 have v1:¬s.v=1:=v1;rw [zha hs,if_neg v1] at h3;refine Ob.o ?_;intro s' hs';have es:s'=s:=Option.some.inj ((show l[i]? =some s' from hs').symm.trans hs);rw [es];refine Br.mk (fun v5=>?_) (fun v5=>?_)
 ·have v5:s.v=5:=v5;rw [if_pos v5] at h3
  refine ⟨List Pt,fun q'=>⟨[(6,.loc 0 0),(10,.loc 2 0),(11,i64 (i:Int))],
    [(0,.box 85 [.val (.slice none 0 0),.val (.bool false)]),(2,.box 85 [.own 3,.val (.bool true)]),(3,.arr 52 ptE 2 q')],4,102,0⟩,
   fun q'=>kH q'=kH q/\jF q'/\q'.length<=q.length,fun q'=>q'.length,q,?_,?_,?_⟩
  ·exact ⟨rfl,h4,Nat.le_refl _⟩
  ·exact zh [(0,some 0),(2,some 2),(3,some 3)]
  rintro q' ⟨t1,t2,t3⟩
  have fin2:kH q'=q'->LE (.tup [.agg [.sl ptE q',bl true],i64 ((i:Int)+1),i64 0]) (subE R):=fun h=>by
   rw [← h3,← t1,h];exact ue (.cons (jJ (.cons .refl (.cons (kC rfl) .nil))) (.cons (zu (show (i:Int)+1=((i+1:Nat):Int) by omega)) (.cons .refl .nil)))
  refine Dr.d ?_;intro hl4;refine Br.mk (fun m=>?_) (fun m=>?_)
  ·have m:(1:Int) < q'.length:=m;intro hl5;refine Ar.o ?_;refine Ob.o ?_;refine Ob.o ?_;intro z hz
   have hz:q'[q'.length - 1]? =some z:=by
    have hz:q'[((q'.length:Int) - 1).toNat]? =some z:=hz
    rwa [show ((q'.length:Int) - 1).toNat=q'.length - 1 by omega] at hz
   refine Ob.o ?_;refine Ob.o ?_;intro f hf;have hf:q'[0]? =some f:=hf;refine Ob.mk (by kernel_rfl) ?_;refine Br.mk (fun k=>?_) (fun k=>?_)
   ·have k:z=f:=qx.1 k;have et:=zg8 (show 1 < q'.length by omega) hz hf k;intro hl7;refine Ar.o ?_;refine Sl.keep (Ob.mk ⟨rfl,oM,oM⟩ ?_);refine ⟨q'.take (q'.length - 1),⟨?_,?_,?_⟩,zM [(0,some 0),(2,some 2),(3,some 4)] ⟨rfl,rfl,congrArg (fun q=>some (Mem.arr 52 ptE 2 q)) (by rw [show ((q'.length:Int) - 1).toNat=q'.length - 1 by omega]),trivial⟩,?_⟩
    ·rw [← et,ziH t2,t1]
    ·rw [← et];exact zdc t2
    ·rw [List.length_take];omega
    ·show (q'.take (q'.length - 1)).length < q'.length;rw [List.length_take];omega
   ·have k:¬z=f:=fun h=>k (qx.2 h)
    refine Ar.o ?_;exact fin2 (zj3 hz hf k)
  ·have m:¬(1:Int) < q'.length:=m;refine Ob.mk (by kernel_rfl) ?_;refine Ar.o ?_;exact fin2 (zg9 oM)
 have v5:¬s.v=5:=v5;rw [if_neg v5] at h3;refine Dr.d ?_;refine Ob.o ?_;intro s' hs';have es:s'=s:=Option.some.inj ((show l[i]? =some s' from hs').symm.trans hs);rw [es];refine zb.t (r_seg (kP q) s tol) ?_;refine Ob.mk (by kernel_rfl) ?_;refine Br.mk (fun k=>?_) (fun k=>?_)
 ·have k:¬(z5 (kP q) s tol).2=0:=k;rw [if_pos k] at h3;rw [← h3];exact ue (.cons (jJ (.cons ku (.cons (ze (show ¬(false=true) by decide)) .nil))) (.cons .refl (.cons .refl .nil)))
 have k:(z5 (kP q) s tol).2=0:=Decidable.not_not.1 k;rw [kF k] at h3;have sl:=zj1 (kP q) s tol;have sn:=zvz k;have sn1:0 < (z5 (kP q) s tol).1.length:=Nat.pos_of_ne_zero fun h=>sn (List.eq_nil_of_length_eq_zero h)
 have pl:=vJ (z5 (kP q) s tol).1 q
 refine zb.give [3] 1 [.own 0,.sl ptE (z5 (kP q) s tol).1] [(0,.arr 52 ptE 2 q)] [(1,.arr 52 ptE 2 (z6 q (z5 (kP q) s tol).1))] (.own 1) (zvy q (z5 (kP q) s tol).1 oM sl)
  LEs.refl rfl rfl rfl ⟨⟨_,rfl,rfl,trivial⟩,trivial⟩ rfl ⟨⟨rfl,trivial⟩,trivial⟩ ?_
 intro hl9;refine Ar.o ?_;refine Ob.o ?_;intro z hz
 have hz:(z5 (kP q) s tol).1[(z5 (kP q) s tol).1.length - 1]? =some z:=by
  have hz:(z5 (kP q) s tol).1[(((z5 (kP q) s tol).1.length:Int) - 1).toNat]? =some z:=hz
  rwa [show (((z5 (kP q) s tol).1.length:Int) - 1).toNat=(z5 (kP q) s tol).1.length - 1 by omega] at hz
 have elp:=zna (q:=q) hz;refine Ar.o ?_
 refine ⟨(i+1,z6 q (z5 (kP q) s tol).1),⟨by dsimp only;omega,by dsimp only;omega,h3,zdb _ h4,zjL _ h5,by dsimp only;omega⟩,
  zM [(0,some 0),(1,some 1),(2,some 2),(3,some 4)] ⟨rfl,?_,rfl,rfl,trivial⟩,by dsimp only;omega⟩
 exact congrArg (fun p=>some (Mem.box 52 (ptE p))) elp.symm
theorem zvA(l:List Sg)(tol:Int):zd Tryz.prog 41 [.sl sgE l,i64 tol] [] (zm9 (zI l tol)) []:=by
 refine zc tok mix Tryz.func41 rfl rfl rfl ?_;refine zb.t (zgz l) ?_;refine Br.mk (fun a0=>ju (by unfold zI;rw [if_pos a0])) (fun a0=>?_);have hv:=Decidable.not_not.1 a0;have hlen:=zau hv;have ho:=(yh.1 hv).2;refine zb.t (zrS tol) ?_;refine Br.mk (fun a1=>ju (by unfold zI;rw [zV hv,if_pos a1])) (fun a1=>?_);have ht:=Decidable.not_not.1 a1;have eQ:zI l tol=if (k7 l tol).2≠0 then ([],(k7 l tol).2) else if 4096 < qQ (k7 l tol).1 then ([],5) else ((k7 l tol).1,0):=by unfold zI;rw [zV hv,zV ht]
 refine ⟨Pl,plE,[],rfl,Ob.o2 ?_⟩
 refine ⟨Nat×List Pl,fun s=>⟨[(0,.sl sgE l),(1,i64 tol),(6,.own 0),(7,i64 (qQ s.2:Int)),(8,i64 (s.1:Int))],[(0,.arr 85 plE 2 s.2)],1,47,0⟩,
  fun s=>s.1<=l.length/\k7 (l.take s.1) tol=(s.2,0)/\(∀y,l[s.1]? =some y->y.v=1)/\s.2.length<=s.1/\∀q∈s.2,q.pts.length<=20000,fun s=>l.length - s.1,(0,[]),?_,?_,?_⟩
 ·exact ⟨Nat.zero_le _,rfl,fun y hy=>ze0 hv y hy,Nat.zero_le _,fun q hq=>by cases hq⟩
 ·exact zh [(0,some 0)]
 rintro ⟨i,out⟩ ⟨h1,h2,h3,h4,h5⟩
 dsimp only at h1 h2 h3 h4 h5;have hc:=zj2 h5 out.length (Nat.le_refl _);rw [List.take_length] at hc;intro hl3;refine Br.mk (fun g=>?_) (fun g=>?_)
 ·have g:(i:Int) < l.length:=g;obtain ⟨x,hx⟩:∃x,l[i]? =some x:=⟨_,List.getElem?_eq_getElem oM⟩;have v1:=h3 x hx;have e:=j9 (tol:=tol) hx;rw [h2,za6,if_pos v1] at e;have sp:=zhb (a:=i) ho (l.length - (i+1)) (i+1) [x.a] rfl oM oM e (by show 1<=_;omega);refine zb.t (zpQ l i x tol hx oM) ?_;generalize zcS l tol (l.length - (i+1)) (i+1) [x.a]=R at*;obtain ⟨p,j,er⟩:=R;refine Br.mk (fun k=>?_) (fun k=>?_)
  ·have k:¬er=0:=k
   rcases sp with ⟨_,sp⟩ | ⟨sp,_⟩
   ·refine ju ?_;dsimp only at sp;rw [eQ,sp,if_pos k]
   ·exact absurd sp k
  have k:er=0:=Decidable.not_not.1 k
  rcases sp with ⟨sp,_⟩ | ⟨_,s1,s2,s3,s4,s5⟩
  ·exact absurd k sp
  dsimp only at s1 s2 s3 s4 s5;intro hl6;have hl6:p.pts.length<=9223372036854775807:=hl6;refine Ar.fit (by show _<=(qQ out:Int)+(p.pts.length:Int)/\(qQ out:Int)+(p.pts.length:Int)<=_;omega) ?_;refine ⟨Pl,plE,[p],rfl,Ob.o0 ?_⟩;refine ⟨[p],rfl,Ob.mk ⟨(by show _*(32:Int)<=_;simp only [List.length_cons,List.length_nil];omega),(by simp only [List.length_cons,List.length_nil];omega),dC,fun _ _=>rfl⟩ ?_⟩
  refine ⟨(j,out++[p]),⟨s2,s4,s3,by simp only [List.length_append,List.length_cons,List.length_nil];omega,fun q hq=>?_⟩,
   z0 [(0,some 3)] ⟨rfl,rfl,rfl,congrArg (fun n=>some (i64 n)) (show (qQ out:Int)+(p.pts.length:Int)=(qQ (out++[p]):Int) by unfold qQ;simp),rfl,trivial⟩ ⟨rfl,trivial⟩,by dsimp only;omega⟩
  rcases List.mem_append.1 hq with hq | hq
  ·exact h5 q hq
  ·rw [List.mem_singleton.1 hq];omega
 ·have g:¬(i:Int) < l.length:=g;rw [List.take_of_length_le oM] at h2;rw [eQ,h2,kF rfl];refine Br.mk (fun m=>?_) (fun m=>?_)
  ·have m:(4096:Int) < (qQ out:Int):=m;exact ju (if_pos (show 4096 < qQ out by omega))
  ·have m:¬(4096:Int) < (qQ out:Int):=m;exact zr9 (if_neg (show ¬4096 < qQ out by omega))
end Go.Gs
