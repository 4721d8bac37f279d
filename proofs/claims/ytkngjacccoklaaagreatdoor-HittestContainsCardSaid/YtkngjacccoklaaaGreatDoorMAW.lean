/- Paths cut to polylines, the program's. -/
import Derived.Test.YtkngjacccoklaaaGreatDoorMA
import Derived.Test.YtkngjacccoklaaaGreatDoorMAV
set_option maxRecDepth 100000
set_option maxHeartbeats 8000000
set_option linter.all false
namespace Go.Gs
open Go.Proofs
variable{cl:List Pl}{b:SV}
def zor{k:Nat}{y:List SV}{n:Int}(hn:n=(cl.length:Int))(h:(jF cl k b)[n.toNat]?=some y):y=[.own k,b]:=by
 subst hn;exact zss h (by simp)
def zgI{k:Nat}{w:List SV}{n:Int}(hn:n=(cl.length:Int)):(jF cl k b).set n.toNat w=cl.map plE++[w]:=by
 subst hn;exact zi4 (by simp)
def zdV{k:Nat}{w y:List SV}{n:Int}(hn:n=(cl.length:Int))(h:((jF cl k b).set n.toNat w)[n.toNat]?=some y):y=w:=by
 rw[zgI hn]at h;subst hn;exact zss h (by simp)
def zvz{k:Nat}{w w':List SV}{n:Int}(hn:n=(cl.length:Int)):((jF cl k b).set n.toNat w).set n.toNat w'=cl.map plE++[w']:=by
 rw[zgI hn];subst hn;exact zi4 (by simp)
def zqG{cl:List Pl}{p:Pl}{a:Nat}(T:List (List SV)):
  ∀(i j:Nat) (x':List SV) (s':SV),((cl++[p]).map plE++T)[i]?=some x'->x'[j]?=some s'->∃(x:List SV) (s:SV),(jF cl a (pr (p.cl=true))++T)[i]?=some x/\x[j]?=some s/\(s'=s∨(s=.own a/\s'=.sl ptE p.pts)):=by
 intro i j x' s' hx hs;unfold jF;rw[XB]at hx;generalize cl.map plE=L at*
 rcases QC i L.length with h|h|h
 ·rw[XY,XK h]at hx;exact⟨x',s',by rw[XY,XK h];exact hx,hs,.inl rfl⟩
 ·subst h;rw[XY,XF (Xk _)]at hx;simp at hx;subst hx;refine⟨[.own a,pr (p.cl=true)],?_⟩
  match j,hs with
  |0,hs=>simp[plE]at hs;subst hs;exact⟨.own a,by simp,rfl,.inr ⟨rfl,rfl⟩⟩
  |1,hs=>simp[plE]at hs;subst hs;exact⟨pr (p.cl=true),by simp,rfl,.inl rfl⟩
  |j+2,hs=>simp[plE]at hs
 rw[XF (by simp;omega)]at hx;refine⟨x',s',?_,hs,.inl rfl⟩;rw[XF (by simp;omega)];rw[←hx];congr 1;simp
def zos(p:Pt)(s:Sg)(tol:Int):(kI p s tol).1.length<=64:=by
 unfold kI
 split
 ·unfold zc5;split
  ·exact Xh _
  rename_i h;have ok:=(yP (show(kY _ tol _).2=0 from Xa.1 h)).1;have ok:1<=(jU p s.a s.b tol).1/\(jU p s.a s.b tol).1<=64:=ok;dsimp only;rw[zah];omega
 split
 ·unfold zc6;split
  ·exact Xh _
  rename_i h;have ok:=(yP (show(kY _ tol _).2=0 from Xa.1 h)).1;have ok:1<=(jV p s.a s.b s.c tol).1/\(jV p s.a s.b s.c tol).1<=64:=ok;dsimp only;rw[zah];omega
 show 1<=64;decide
variable{l:List Pt}{z:Pt}
def zyA(h:l[l.length-1]?=some z):qO l=z:=by
 unfold qO;rw[Q2,KU,h];rfl
variable{i:Nat}
def zmM{l:List Pl}{x:Pl}(h:l[i]?=some x):jm (l.take (i+1))=jm (l.take i)+x.pts.length:=by
 unfold jm;rw[Xl,h];simp
def zot{l:List Pl}{B:Nat}(h:∀q∈l,q.pts.length<=B):∀i,i<=l.length->jm (l.take i)<=B*i
 |0,_=>Xh _
 |i+1,hi=>by
  have hx:l[i]?=some l[i]:=Xb oM;rw[zmM hx];have:=zot h i oM;have:=h _ (KJ (show i<l.length by omega));rw[YB];omega
def zou(c:List Pl×Int):SV:=.tup [.sl plE c.1,i64 c.2]
variable{c:List Pl×Int}
def zyB{a:List Pl}{b:Int}(h:c=(a,b)):LE (.tup [.sl plE a,i64 b]) (zou c):=by subst h;exact .refl
def jo{b:Int}(h:c=([],b)):LE (.tup [.val (.slice none 0 0),i64 b]) (zou c):=by subst h;exact zM zD .refl
variable{q:List Pt}{f:Pt}
def zgJ(h1:1<q.length)(hz:q[q.length-1]?=some z)(hf:q[0]?=some f)(e:z=f):qf q=q.take (q.length-1):=by
 unfold qf;rw[KU,hz,Jl,hf,e,Xe ⟨h1,rfl⟩,List.dropLast_eq_take]
def zi6(hz:q[q.length-1]?=some z)(hf:q[0]?=some f)(e:¬z=f):qf q=q:=by
 unfold qf;rw[KU,hz,Jl,hf,Xc (λk=>e (Xm k.2))]
def zgK(h:¬1<q.length):qf q=q:=by
 unfold qf;rw[Xc (λk=>h k.1)]
def zqH(q:List Pt):(qf q).length<=q.length:=by
 unfold qf;split
 ·rw[QS];omega
 exact Xk _
variable{tol:Int}{p:Pl}
def zqI{s:Sg}(h1:¬s.v=1):ug tol (cl++[p],0) s=if (zbk p s tol).2≠0 then([],(zbk p s tol).2) else(cl++[(zbk p s tol).1],0):=by
 rw[zgB,Xc h1];have e:(cl++[p]).getLastD ⟨[],false⟩=p:=by simp
 rw[e,Jz]
def zAX{s:Sg}(h:zdc s):zr s.a/\zr s.b/\zr s.c:=⟨h.1.1,h.2.1.1,h.2.2.1⟩
def zyC(l:List Sg)(tol:Int):CG0 127 [.sl sgE l,i64 tol] [] (zou (zW l tol)) []:=by
 refine zc Tryz.func127 ?_;refine zb.t (ziY l)<|⟨λa0=>jo (by unfold zW;rw[Xe a0]),λa0=>?_⟩;have hv:=Xa.1 a0;have hlen:=zhA hv;have ho:=(zaV.1 hv).2;have bad:¬ze9 tol->zW l tol=([],2):=λh=>by unfold zW;rw[kH hv,Xe h]
 refine⟨λa1=>jo (bad (λh=>by have a1:tol<1:=a1;unfold ze9 at h;omega)),λa1=>?_⟩;refine⟨λa2=>jo (bad (λh=>by have a2:256<tol:=a2;unfold ze9 at h;omega)),λa2=>?_⟩;have ht:ze9 tol:=⟨by have a1:¬tol<1:=a1;omega,by have a2:¬256<tol:=a2;omega⟩;have eQ:zW l tol=if (jf l tol).2≠0 then([],(jf l tol).2) else if 4096<jm (jf l tol).1 then([],5) else((jf l tol).1,0):=by unfold zW;rw[kH hv,kH ht]
 intro hl3
 refine⟨Nat×Option (List Pl×Pl),λq=>match q with
   |(i,none)=>⟨[(1,i64 tol),(6,.val (.slice none 0 0)),(27,.sl sgE l),(28,i64 (l.length:Int)),(29,i64 (i:Int))],[],0,128,0⟩
   |(i,some (cl,p))=>⟨[(1,i64 tol),(6,.own 0),(27,.sl sgE l),(28,i64 (l.length:Int)),(29,i64 (i:Int))],[(0,.garr 143 2 (jF cl 1 (pr (p.cl=true)))),(1,.arr 28 ptE 2 p.pts)],2,128,0⟩,
  λq=>match q with
   |(i,none)=>i=0
   |(i,some (cl,p))=>0<i/\i<=l.length/\jf (l.take i) tol=(cl++[p],0)/\cl.length<i/\p.pts.length<=1+64*i/\∀q∈cl,q.pts.length<=20000,λq=>l.length-q.1,(0,none),rfl,?_,?_⟩
 ·exact zC []
 rintro⟨i,_|⟨cl,p⟩⟩ hI
 ·have hI:i=0:=hI;subst hI;refine⟨λg=>?_,λg=>?_⟩
  ·have g:(0:Int)<l.length:=g;refine Ob.mk ⟨dC,g⟩ ?_;intro x hx;have hx:l[0]?=some x:=hx;have hv1:x.v=1:=zio hv x hx;refine⟨λ_=>?_,λh=>absurd hv1 h⟩;refine⟨Pt,ptE,[x.a],rfl,Ob.o0 ?_⟩;refine⟨[[.own 1,.val (.bool false)]],rfl,Ob.o9 ?_⟩;refine Ob.mk ⟨by show((1:Nat):Int)*32<=_;decide,by show 1<=_;decide,dC⟩<|Ar.fit dC ?_;have e:=vP (tol:=tol) hx
   refine⟨(1,some ([],⟨[x.a],false⟩)),⟨dC,oM,?_,dC,by show 1<=_;decide,λq hq=>by cases hq⟩,
    (zen 3 rfl (ys:=jF [] 1 (pr ((⟨[x.a],false⟩:Pl).cl=true))) (.cons (.C (.cons (zd (show¬(false=true) by decide)) .nil)) .nil)).trans (zu [3,1] ⟨⟨_,rfl,v8 rfl⟩,rfl,trivial⟩),by show l.length-1<l.length-0;omega⟩
   rw[e];show ug tol ([],0) x=_;rw[zgB,Xe hv1]
  have g:¬(0:Int)<l.length:=g;have hl0:l=[]:=Xp oM;refine⟨Unit,λ_=>⟨[(6,.val (.slice none 0 0)),(13,i64 0),(114,i64 0),(115,i64 0)],[],0,128,0⟩,λ_=>True,λ_=>0,(),trivial,?_,?_⟩
  ·exact zC []
  rintro⟨⟩ _
  refine⟨λg=>absurd g dC,λ_=>?_⟩;refine⟨λg=>absurd g dC,λ_=>?_⟩;refine jo ?_;rw[eQ,hl0];rfl
 obtain⟨k0,k1,k2,k3,k4,k5⟩:0<i/\i<=l.length/\jf (l.take i) tol=(cl++[p],0)/\cl.length<i/\p.pts.length<=1+64*i/\∀q∈cl,q.pts.length<=20000:=hI;have inv:=zky (tol:=tol) (lo:=⟨-1048576,-1048576⟩) (hi:=⟨1048576,1048576⟩) ho (λp hp=>zyd hv p hp) i k1 (by rw[k2]);rw[k2]at inv;obtain⟨pne,_,pok⟩:=inv.2 p (by simp);have hp1:0<p.pts.length:=X9 λh=>pne (Xp h)
 refine⟨λg=>?_,λg=>?_⟩
 ·have g:(i:Int)<l.length:=g;refine Ob.mk ⟨oM,g⟩ ?_;intro x hx;have hx:l[i]?=some x:=hx;have e:=vP (tol:=tol) hx;rw[k2]at e;have hf:=zAX (zkC ho x (Xf hx));refine⟨λv1=>?_,λv1=>?_⟩
  ·have v1:x.v=1:=v1;refine⟨Pt,ptE,[x.a],rfl,Ob.o0 ?_⟩;refine⟨[[.own 3,.val (.bool false)]],rfl,Ob.o9 ?_⟩;refine Ob.mk ⟨by show _*(32:Int)<=_;rw[zai];simp only[Xn,Xr];omega,by rw[zai];simp only[Xn,Xr];omega,dC⟩<|Ar.o ?_
   refine⟨(i+1,some (cl++[p],⟨[x.a],false⟩)),⟨oM,oM,?_,?_,?_,?_⟩,
    ((zen 5 rfl (ys:=jF cl 1 (pr (p.cl=true))++[[.own 3,pr ((⟨[x.a],false⟩:Pl).cl=true)]]) (Rows.app .refl (.cons (.C (.cons (zd (show¬(false=true) by decide)) .nil)) .nil))).trans
     (zcD (sz0:=2) (T0:=143) 1 5 (enc:=ptE) (ys:=p.pts) rfl rfl (xs':=jF (cl++[p]) 3 (pr ((⟨[x.a],false⟩:Pl).cl=true))) (by simp[jF]) (λz hz=>?_) (zqG _))).trans
     (zu [5,3] ⟨⟨_,rfl,v8 rfl⟩,rfl,trivial⟩),by show l.length-(i+1)<l.length-i;omega⟩
   ·rw[e,zgB,Xe v1]
   ·simp only[Xq,Xn,Xr];omega
   ·show 1<=_;omega
   ·intro q hq
    rcases Xs.1 hq with hq|hq
    ·exact k5 q hq
    rw[Xv.1 hq];omega
   rcases Xs.1 hz with hz|hz
   ·obtain⟨w,_,rfl⟩:=XP.1 hz;rfl
   rw[Xv.1 hz];rfl
  have v1:¬x.v=1:=v1;rw[zqI v1]at e;intro hl6;refine Ar.o ?_;have hrl:=zai cl 1 (pr (p.cl=true));have hN:((jF cl 1 (pr (p.cl=true))).length:Int)-1=cl.length:=by rw[hrl];omega
  have hrow:0<=((jF cl 1 (pr (p.cl=true))).length:Int)-1/\((jF cl 1 (pr (p.cl=true))).length:Int)-1<(jF cl 1 (pr (p.cl=true))).length:=oM;refine Ob.mk hrow<|Br.mk (λv5=>?_) (λv5=>?_)
  ·have v5:¬x.v=5:=v5;refine Dr.d<|Ob.mk hrow ?_;intro y hy;obtain rfl:=zor hN hy;refine Ob.mk hrow ?_;intro y hy;obtain rfl:=zor hN hy;intro hl8;refine Ar.o<|Ob.o<|Ob.o ?_;intro z hz
   have hz:p.pts[p.pts.length-1]?=some z:=by
    have hz:p.pts[((p.pts.length:Int)-1).toNat]?=some z:=hz
    rwa [show((p.pts.length:Int)-1).toNat=p.pts.length-1 by omega]at hz
   have hlz:=zyA hz
   have eg:zbk p x tol=if (kI z x tol).2≠0 then(p,(kI z x tol).2) else(⟨kw p.pts (kI z x tol).1,p.cl⟩,0):=by
    unfold zbk;rw[Xc v5,hlz]
   refine zb.t (p_seg z x tol (pok z (Xf hz)) hf)<|Ob.mk (by kernel_rfl) ?_;have sl:=zos z x tol;refine⟨λk=>?_,λk=>?_⟩
   ·have k:¬(kI z x tol).2=0:=k;refine jo ?_;rw[Xe k]at eg;rw[eg,Xe k]at e;have:=zmt hx (by rw[e];exact k);rw[e]at this;rw[eQ,this,Xe k]
   have k:(kI z x tol).2=0:=Xa.1 k;rw[qK k]at eg;rw[eg,qK rfl]at e
   refine zb.give [0,1] 1 [.eloc 0 2 (cl.length:Int) 0,.sl ptE (kI z x tol).1] [(0,.garr 143 2 (jF cl 1 (pr (p.cl=true)))),(1,.arr 28 ptE 2 p.pts)]
    [(0,.garr 143 2 (jF cl 2 (pr (p.cl=true)))),(2,.arr 28 ptE 2 (kw p.pts (kI z x tol).1))] (.tup []) (zDX cl p.pts (kI z x tol).1 (p.cl=true) oM sl oM)
    (.cons (ub (Xg (λn=>SV.eloc 0 2 n 0) hN)) (.C .nil)) rfl rfl rfl ⟨⟨_,rfl,Xg (λq=>some (Mem.garr 143 2 q)) (zqC [0,1] _ cl 1 _ _).symm,zyy rfl cl _ _⟩,⟨_,rfl,rfl,trivial⟩,trivial⟩ rfl ⟨⟨rfl,zyz rfl cl _ _⟩,⟨rfl,trivial⟩,trivial⟩ ?_
   refine Ar.o ?_
   refine⟨(i+1,some (cl,⟨kw p.pts (kI z x tol).1,p.cl⟩)),⟨oM,oM,e,oM,?_,k5⟩,
    zu [0,3] ⟨⟨_,Xg (λq=>some (Mem.garr 143 2 q)) (zqC [0,1] 3 cl 2 _ _),v8 rfl⟩,rfl,trivial⟩,by show l.length-(i+1)<l.length-i;omega⟩
   have:=vu (kI z x tol).1 p.pts;show(kw p.pts (kI z x tol).1).length<=_;omega
  have v5:x.v=5:=Xa.1 v5;have eg:zbk p x tol=(⟨qf p.pts,true⟩,0):=by unfold zbk;rw[Xe v5]
  rw[eg,qK rfl]at e;refine Ob.mk hrow ?_;intro y hy;obtain rfl:=zor hN hy;have hrow2:∀w:List SV,0<=((jF cl 1 (pr (p.cl=true))).length:Int)-1/\((jF cl 1 (pr (p.cl=true))).length:Int)-1<((jF cl 1 (pr (p.cl=true))).set (((jF cl 1 (pr (p.cl=true))).length:Int)-1).toNat w).length:=λw=>by rw[XV];omega
  refine Ob.mk (hrow2 _) ?_;intro y hy;obtain rfl:=zdV hN hy;intro hl8
  have fin:∀{σ:St} (q:List Pt),qf p.pts=q->Sub σ ⟨[(1,i64 tol),(6,.own 0),(27,.sl sgE l),(28,i64 (l.length:Int)),(29,i64 ((i+1:Nat):Int))],[(0,.garr 143 2 (jF cl 1 (pr ((⟨qf p.pts,true⟩:Pl).cl=true)))),(1,.arr 28 ptE 2 q)],2,128,0⟩->
    ∃x',(match x' with
     |(i,none)=>i=0
     |(i,some (cl,p))=>0<i/\i<=l.length/\jf (l.take i) tol=(cl++[p],0)/\cl.length<i/\p.pts.length<=1+64*i/\∀q∈cl,q.pts.length<=20000:Prop)/\
    Sub σ (match x' with
     |(i,none)=>⟨[(1,i64 tol),(6,.val (.slice none 0 0)),(27,.sl sgE l),(28,i64 (l.length:Int)),(29,i64 (i:Int))],[],0,128,0⟩
     |(i,some (cl,p))=>⟨[(1,i64 tol),(6,.own 0),(27,.sl sgE l),(28,i64 (l.length:Int)),(29,i64 (i:Int))],[(0,.garr 143 2 (jF cl 1 (pr (p.cl=true)))),(1,.arr 28 ptE 2 p.pts)],2,128,0⟩)/\l.length-x'.1<l.length-(i,some (cl,p)).1:=λq hq hs=>by
   refine⟨(i+1,some (cl,⟨qf p.pts,true⟩)),⟨oM,oM,e,oM,?_,k5⟩,?_,by show l.length-(i+1)<l.length-i;omega⟩
   ·have:=zqH p.pts;show(qf p.pts).length<=_;omega
   subst hq;exact hs
  refine Dr.d<|Br.mk (λm=>?_) (λm=>?_)
  ·have m:(1:Int)<p.pts.length:=m;refine Ob.mk (hrow2 _) ?_;intro y hy;obtain rfl:=zdV hN hy;refine Ar.o<|Ob.o<|Ob.o ?_;intro z hz
   have hz:p.pts[p.pts.length-1]?=some z:=by
    have hz:p.pts[((p.pts.length:Int)-1).toNat]?=some z:=hz
    rwa [show((p.pts.length:Int)-1).toNat=p.pts.length-1 by omega]at hz
   refine Ob.mk (hrow2 _) ?_;intro y hy;obtain rfl:=zdV hN hy;refine Ob.o<|Ob.o ?_;intro f hf;have hf:p.pts[0]?=some f:=hf;refine Ob.mk (by kernel_rfl)<|⟨λk=>?_,λk=>?_⟩
   ·have k:z=f:=qi.1 k;refine Ob.mk (hrow2 _) ?_;intro y hy;obtain rfl:=zdV hN hy;refine Ar.o<|Sl.keep (Ob.mk ⟨rfl,oM,oM⟩ ?_);refine Ob.mk (hrow2 _) ?_;intro y hy;obtain rfl:=zdV hN hy;refine Ar.o<|fin (p.pts.take ((p.pts.length:Int)-1).toNat) ?_ ?_;rotate_left
    ·exact(zen 0 (by exact Xg (λq=>some (Mem.garr 143 2 q)) (zvz hN)) (ys:=jF cl 3 (pr ((⟨qf p.pts,true⟩:Pl).cl=true))) (Rows.app .refl (.cons (.C (.cons (zI rfl) .nil)) .nil))).trans
      (zu [0,3] ⟨⟨_,rfl,v8 rfl⟩,rfl,trivial⟩)
    rw[show((p.pts.length:Int)-1).toNat=p.pts.length-1 by omega];exact zgJ oM hz hf k
   have k:¬z=f:=λh=>k (qi.2 h)
   refine Ar.o<|fin p.pts (zi6 hz hf k) ?_
   exact((zen 0 (by exact Xg (λq=>some (Mem.garr 143 2 q)) (zgI hN)) (ys:=jF cl 1 (pr ((⟨qf p.pts,true⟩:Pl).cl=true))) (Rows.app .refl (.cons (.C (.cons (zI rfl) .nil)) .nil))).trans
    (zu [0,1] ⟨⟨_,rfl,v8 rfl⟩,rfl,trivial⟩))
  have m:¬(1:Int)<p.pts.length:=m;refine Ob.mk (by kernel_rfl)<|Ar.o<|fin p.pts (zgK oM) ?_
  exact((zen 0 (by exact Xg (λq=>some (Mem.garr 143 2 q)) (zgI hN)) (ys:=jF cl 1 (pr ((⟨qf p.pts,true⟩:Pl).cl=true))) (Rows.app .refl (.cons (.C (.cons (zI rfl) .nil)) .nil))).trans
   (zu [0,1] ⟨⟨_,rfl,v8 rfl⟩,rfl,trivial⟩))
 have g:¬(i:Int)<l.length:=g;have hi:l.take i=l:=Xi oM;rw[hi]at k2
 have hout:∀q∈cl++[p],q.pts.length<=20000:=λq hq=>by
  rcases Xs.1 hq with hq|hq
  ·exact k5 q hq
  rw[Xv.1 hq];omega
 have hlo:(cl++[p]).length=cl.length+1:=by simp
 rw[eQ,k2,qK rfl];intro hl12;refine⟨Nat,λk=>⟨[(6,.own 0),(13,i64 (jm ((cl++[p]).take k):Int)),(113,.own 0),(114,i64 ((cl++[p]).length:Int)),(115,i64 (k:Int))],[(0,.arr 143 plE 2 (cl++[p]))],1,128,0⟩,λk=>k<=(cl++[p]).length,λk=>(cl++[p]).length-k,0,?_,?_,?_⟩
 ·exact Xh _
 ·exact((zcD (sz0:=2) (T0:=143) 1 0 (enc:=ptE) (ys:=p.pts) rfl rfl (xs':=(cl++[p]).map plE) (by rw[zai,Xx,hlo]) (λz hz=>by obtain⟨w,_,rfl⟩:=XP.1 hz;rfl)
   (λi j x' s' hx hs=>by have:=zqG (cl:=cl) (p:=p) (a:=1) [] i j x' s' (by rwa [XE]) hs;rwa [XE]at this)).trans (zgg 0 plE (cl++[p]) rfl (λ_ _=>rfl))).trans
   (zT [0] ⟨rfl,rfl,rfl,Xg (λn=>some (i64 n)) (by rw[zai,hlo]),rfl,trivial⟩ ⟨rfl,trivial⟩)
 rintro k hk
 have hc:=zot hout k hk;refine⟨λg=>?_,λg=>?_⟩
 ·have g:(k:Int)<(cl++[p]).length:=g;refine Ob.o<|Ob.o ?_;intro q hq;have hq:(cl++[p])[k]?=some q:=hq;intro hl14;have:=hout q (Xf hq);(iterate 2 refine Ar.o ?_);refine⟨k+1,oM,zT [0] ⟨rfl,Xg (λn=>some (i64 n)) (by rw[zmM hq];omega),rfl,rfl,rfl,trivial⟩ ⟨rfl,trivial⟩,by dsimp only;omega⟩
 have g:¬(k:Int)<(cl++[p]).length:=g;have hk:(cl++[p]).take k=cl++[p]:=Xi oM;refine⟨λm=>?_,λm=>?_⟩
 ·have m:(4096:Int)<(jm ((cl++[p]).take k):Int):=m;rw[hk]at m;exact jo (Xe (show 4096<jm (cl++[p]) by omega))
 have m:¬(4096:Int)<(jm ((cl++[p]).take k):Int):=m;rw[hk]at m;exact zyB (Xc (show¬4096<jm (cl++[p]) by omega))
def zhO(h:jA l):qf (qf l)=qf l:=by
 have:=zms h;generalize qf l=m at*;unfold qf;rw[Xc (λk=>this k.1 k.2)]
def zfd(l:List Sg)(tol:Int):Nat->Nat->List Pt->Pl×Nat×Int
 |0,i,q=>(⟨q,false⟩,i,0)
 |k+1,i,q=>match l[i]? with
  |none=>(⟨q,false⟩,i,0)
  |some s=>if s.v=1 then(⟨q,false⟩,i,0) else if s.v=5 then(⟨qf q,true⟩,i+1,0)
   else if (kI (qO q) s tol).2≠0 then(⟨[],false⟩,0,(kI (qO q) s tol).2) else zfd l tol k (i+1) (kw q (kI (qO q) s tol).1)
def zkN{l:List Sg}{s:Sg}(h:l[i]?=some s):zfd l tol (l.length-i) i q=
  if s.v=1 then(⟨q,false⟩,i,0) else if s.v=5 then(⟨qf q,true⟩,i+1,0)
   else if (kI (qO q) s tol).2≠0 then(⟨[],false⟩,0,(kI (qO q) s tol).2) else zfd l tol (l.length-(i+1)) (i+1) (kw q (kI (qO q) s tol).1):=by
 have hi:=(Xd.1 h).1;rw[show l.length-i=(l.length-(i+1))+1 by omega,zfd,h]
def zmN{l:List Sg}(h:l.length<=i):zfd l tol (l.length-i) i q=(⟨q,false⟩,i,0):=by
 rw[show l.length-i=0 by omega];rfl
def SubOK(l:List Sg)(tol:Int)(a:Nat)(out:List Pl)(r:Pl×Nat×Int):Prop:=
 (r.2.2≠0/\jf l tol=([],r.2.2))∨(r.2.2=0/\a<r.2.1/\r.2.1<=l.length/\(∀y,l[r.2.1]?=some y->y.v=1)/\jf (l.take r.2.1) tol=(out++[r.1],0)/\r.1.pts.length<=1+64*l.length)
def zkO{l:List Sg}{tol:Int}{a:Nat}{out:List Pl}(ho:oks 5 l):∀(k i:Nat) (q:List Pt),k=l.length-i->a<i->i<=l.length->jf (l.take i) tol=(out++[⟨q,false⟩],0)->q.length<=1+64*i->SubOK l tol a out (zfd l tol (l.length-i) i q)
 |0,i,q,hk,h1,h2,h3,h4=>by
  rw[zmN oM];exact .inr ⟨rfl,h1,h2,λy hy=>by have:=(Xd.1 hy).1;dsimp only at this;omega,h3,by show q.length<=_;omega⟩
 |k+1,i,q,hk,h1,h2,h3,h4=>by
  have hi:i<l.length:=oM;have hx:l[i]?=some l[i]:=Xb hi;have e:=vP (tol:=tol) hx;rw[h3]at e;rw[zkN hx];generalize l[i]=s at*
  by_cases v1:s.v=1
  ·rw[Xe v1];exact .inr ⟨rfl,h1,h2,λy hy=>by have hy:l[i]?=some y:=hy;rw[hx]at hy;rw[←Xm hy];exact v1,h3,by show q.length<=_;omega⟩
  rw[Xc v1];rw[zqI v1]at e
  by_cases v5:s.v=5
  ·rw[Xe v5];have eg:zbk ⟨q,false⟩ s tol=(⟨qf q,true⟩,0):=by unfold zbk;rw[Xe v5]
   rw[eg,qK rfl]at e;refine .inr ⟨rfl,by show a<i+1;omega,by show i+1<=_;omega,λy hy=>?_,e,?_⟩
   ·have he:=zsn ho hy;have hl:zqm 5 l (i+1)=s.v:=zkx hx;dsimp only at he;rw[hl,v5]at he;exact(uZ.1 he).2.1.resolve_right λh=>h.1 rfl
   have:=zqH q;show(qf q).length<=_;omega
  rw[Xc v5];have eg:zbk ⟨q,false⟩ s tol=if (kI (qO q) s tol).2≠0 then(⟨q,false⟩,(kI (qO q) s tol).2) else(⟨kw q (kI (qO q) s tol).1,false⟩,0):=by unfold zbk;rw[Xc v5]
  by_cases k0:(kI (qO q) s tol).2=0
  ·rw[qK k0]at eg ⊢;rw[eg,qK rfl]at e;have h5:=vu (kI (qO q) s tol).1 q;have h6:=zos (qO q) s tol;exact zkO ho k (i+1) _ oM oM oM e oM
  rw[Xe k0]at eg ⊢;rw[eg,Xe k0]at e;have:=zmt hx (by rw[e];exact k0);rw[e]at this;exact .inl ⟨k0,this⟩
def zDZ{p:Pt}{s:Sg}(h:(kI p s tol).2=0):(kI p s tol).1≠[]:=by
 have up:∀(f:Int->Pt) (n:Nat),1<=n->zcc f n≠[]:=λf n hn e=>by
  have:=zah f n;rw[e]at this;simp at this;omega
 unfold kI at h ⊢
 by_cases h3:s.v=3
 ·rw[Xe h3]at h ⊢;have k:(jU p s.a s.b tol).2=0:=Xa.1 λk=>k (by rw[zhK k]at h;exact h)
  have ok:=(yP (show(kY _ tol _).2=0 from k)).1;have ok:1<=(jU p s.a s.b tol).1/\(jU p s.a s.b tol).1<=64:=ok;rw[zkL k];dsimp only;exact up _ _ (show 1<=(jU p s.a s.b tol).1.toNat by omega)
 rw[Xc h3]at h ⊢
 by_cases h4:s.v=4
 ·rw[Xe h4]at h ⊢;have k:(jV p s.a s.b s.c tol).2=0:=Xa.1 λk=>k (by rw[zhM k]at h;exact h)
  have ok:=(yP (show(kY _ tol _).2=0 from k)).1;have ok:1<=(jV p s.a s.b s.c tol).1/\(jV p s.a s.b s.c tol).1<=64:=ok;rw[zkM k];dsimp only;exact up _ _ (show 1<=(jV p s.a s.b s.c tol).1.toNat by omega)
 rw[Xc h4];simp
def subE(r:Pl×Nat×Int):SV:=.tup [.agg (plE r.1),i64 (r.2.1:Int),i64 r.2.2]
def zst{q more:List Pt}{z:Pt}(h:more[more.length-1]?=some z):qO (kw q more)=z:=by
 have hne:more≠[]:=λe=>by rw[e]at h;simp at h
 unfold qO;rw[Q2,zmr more q hne,KU,h];rfl
def zvA(l:List Sg)(a:Nat)(x:Sg)(tol:Int)(hx:l[a]?=some x)(hlen:l.length<=300):
  CG0 144 [.sl sgE l,i64 (a:Int),i64 tol] [] (subE (zfd l tol (l.length-(a+1)) (a+1) [x.a])) []:=by
 have ha:=(Xd.1 hx).1;refine u0 1 tok mix Tryz.func144 rfl rfl rfl<|Ob.o4 ?_;intro x' hx';have ex:x'=x:=Xm ((show l[a]?=some x' from hx').symm.trans hx);rw[ex];refine⟨Pt,ptE,[x.a],rfl,Ob.o0 ?_⟩;refine Ar.o ?_;generalize hR:zfd l tol (l.length-(a+1)) (a+1) [x.a]=R
 refine⟨Nat×List Pt,λs=>⟨[(0,.sl sgE l),(2,i64 tol),(6,.loc 0 0),(9,.loc 1 0),(10,.loc 2 0),(11,i64 (s.1:Int))],
   [(0,.box 143 [.val (.slice none 0 0),.val (.bool false)]),(1,.box 28 (ptE (qO s.2))),(2,.box 143 [.own 3,.val (.bool false)]),(3,.arr 28 ptE 2 s.2)],4,102,0⟩,
  λs=>a<s.1/\s.1<=l.length/\zfd l tol (l.length-s.1) s.1 s.2=R/\jA s.2/\s.2≠[]/\s.2.length<=1+64*s.1,λs=>l.length-s.1,(a+1,[x.a]),?_,?_,?_⟩
 ·exact⟨by dsimp only;omega,by dsimp only;omega,hR,⟨λ_ h=>(by cases h),trivial⟩,by simp,by show 1<=_;omega⟩
 ·exact zT [0,1,3,2] ⟨rfl,rfl,rfl,rfl,rfl,Xg (λn=>some (i64 n)) (show((a+1:Nat):Int)=(a:Int)+1 by omega).symm,trivial⟩ ⟨rfl,rfl,rfl,rfl,trivial⟩
 rintro⟨i,q⟩ ⟨h1,h2,h3,h4,h5,h6⟩
 dsimp only at h1 h2 h3 h4 h5 h6;have hq1:0<q.length:=X9 λh=>h5 (Xp h)
 have out:(l.length<=i∨∃s,l[i]?=some s/\s.v=1)->R=(⟨q,false⟩,i,0):=λh=>by
  rw[←h3]
  rcases h with h|⟨s,hs,hv⟩
  ·exact zmN h
  rw[zkN hs,Xe hv]
 have fin:R=(⟨q,false⟩,i,0)->LE (.tup [.agg [.sl ptE q,bl false],i64 (i:Int),i64 0]) (subE R):=λh=>by
  rw[h];exact zbP (.cons (ji (.C (.cons (zd (show¬(false=true) by decide)) .nil))) (.C (.C .nil)))
 intro hl1;refine⟨λg=>?_,λg=>?_⟩;rotate_left
 ·have g:¬(i:Int)<l.length:=g;exact fin (out (.inl oM))
 have g:(i:Int)<l.length:=g;refine Ob.o ?_;intro s hs;have hs:l[i]?=some s:=hs;refine⟨λv1=>?_,λv1=>?_⟩;rotate_left
 ·have v1:s.v=1:=Xa.1 v1;exact fin (out (.inr ⟨s,hs,v1⟩))
 have v1:¬s.v=1:=v1;rw[zkN hs,Xc v1]at h3;refine Ob.o ?_;intro s' hs';have es:s'=s:=Xm ((show l[i]?=some s' from hs').symm.trans hs);rw[es];refine⟨λv5=>?_,λv5=>?_⟩
 ·have v5:s.v=5:=v5;rw[Xe v5]at h3
  refine⟨List Pt,λq'=>⟨[(6,.loc 0 0),(10,.loc 2 0),(11,i64 (i:Int))],
    [(0,.box 143 [.val (.slice none 0 0),.val (.bool false)]),(2,.box 143 [.own 3,.val (.bool true)]),(3,.arr 28 ptE 2 q')],4,102,0⟩,
   λq'=>qf q'=qf q/\jA q'/\q'.length<=q.length,λq'=>q'.length,q,?_,?_,?_⟩
  ·exact⟨rfl,h4,Xk _⟩
  ·exact zC [(0,some 0),(2,some 2),(3,some 3)]
  rintro q' ⟨t1,t2,t3⟩
  have fin2:qf q'=q'->LE (.tup [.agg [.sl ptE q',bl true],i64 ((i:Int)+1),i64 0]) (subE R):=λh=>by
   rw[←h3,←t1,h];exact zbP (.cons (ji (.C (.cons (zI rfl) .nil))) (.cons (ze (show(i:Int)+1=((i+1:Nat):Int) by omega)) (.C .nil)))
  refine Dr.d ?_;intro hl4;refine⟨λm=>?_,λm=>?_⟩
  ·have m:(1:Int)<q'.length:=m;intro hl5;refine Ar.o<|Ob.o<|Ob.o ?_;intro z hz
   have hz:q'[q'.length-1]?=some z:=by
    have hz:q'[((q'.length:Int)-1).toNat]?=some z:=hz
    rwa [show((q'.length:Int)-1).toNat=q'.length-1 by omega]at hz
   refine Ob.o<|Ob.o ?_;intro f hf;have hf:q'[0]?=some f:=hf;refine Ob.mk (by kernel_rfl)<|⟨λk=>?_,λk=>?_⟩
   ·have k:z=f:=qi.1 k;have et:=zgJ (show 1<q'.length by omega) hz hf k;intro hl7;refine Ar.o<|Sl.keep (Ob.mk ⟨rfl,oM,oM⟩ ?_);refine⟨q'.take (q'.length-1),⟨?_,?_,?_⟩,zdy [(0,some 0),(2,some 2),(3,some 4)] ⟨rfl,rfl,Xg (λq=>some (Mem.arr 28 ptE 2 q)) (by rw[show((q'.length:Int)-1).toNat=q'.length-1 by omega]),trivial⟩,?_⟩
    ·rw[←et,zhO t2,t1]
    ·rw[←et];exact zbl t2
    ·rw[Xo];omega
    show(q'.take (q'.length-1)).length<q'.length;rw[Xo];omega
   have k:¬z=f:=λh=>k (qi.2 h)
   exact Ar.o<|fin2 (zi6 hz hf k)
  have m:¬(1:Int)<q'.length:=m;exact Ob.mk (by kernel_rfl)<|Ar.o<|fin2 (zgK oM)
 have v5:¬s.v=5:=v5;rw[Xc v5]at h3;refine Dr.d<|Ob.o ?_;intro s' hs';have es:s'=s:=Xm ((show l[i]?=some s' from hs').symm.trans hs);rw[es];refine zb.t (r_seg (qO q) s tol)<|Ob.mk (by kernel_rfl)<|⟨λk=>?_,λk=>?_⟩
 ·have k:¬(kI (qO q) s tol).2=0:=k;rw[Xe k]at h3;rw[←h3];exact zbP (.cons (ji (.cons zD (.cons (zd (show¬(false=true) by decide)) .nil))) (.C (.C .nil)))
 have k:(kI (qO q) s tol).2=0:=Xa.1 k;rw[qK k]at h3;have sl:=zos (qO q) s tol;have sn:=zDZ k;have sn1:0<(kI (qO q) s tol).1.length:=X9 λh=>sn (Xp h)
 have pl:=vu (kI (qO q) s tol).1 q
 refine zb.give [3] 1 [.own 0,.sl ptE (kI (qO q) s tol).1] [(0,.arr 28 ptE 2 q)] [(1,.arr 28 ptE 2 (kw q (kI (qO q) s tol).1))] (.own 1) (zDY q (kI (qO q) s tol).1 oM sl)
  LEs.refl rfl rfl rfl ⟨⟨_,rfl,rfl,trivial⟩,trivial⟩ rfl ⟨⟨rfl,trivial⟩,trivial⟩ ?_
 intro hl9;refine Ar.o<|Ob.o ?_;intro z hz
 have hz:(kI (qO q) s tol).1[(kI (qO q) s tol).1.length-1]?=some z:=by
  have hz:(kI (qO q) s tol).1[(((kI (qO q) s tol).1.length:Int)-1).toNat]?=some z:=hz
  rwa [show(((kI (qO q) s tol).1.length:Int)-1).toNat=(kI (qO q) s tol).1.length-1 by omega]at hz
 have elp:=zst (q:=q) hz;refine Ar.o ?_
 refine⟨(i+1,kw q (kI (qO q) s tol).1),⟨by dsimp only;omega,by dsimp only;omega,h3,zfB _ h4,zoi _ h5,by dsimp only;omega⟩,
  zu [0,1,2,4] ⟨rfl,?_,rfl,rfl,trivial⟩,by dsimp only;omega⟩
 exact Xg (λp=>some (Mem.box 28 (ptE p))) elp.symm
def zyD(l:List Sg)(tol:Int):CG0 97 [.sl sgE l,i64 tol] [] (zou (zW l tol)) []:=by
 refine zc Tryz.func97 ?_;refine zb.t (zgt l)<|⟨λa0=>jo (by unfold zW;rw[Xe a0]),λa0=>?_⟩;have hv:=Xa.1 a0;have hlen:=zhA hv;have ho:=(zaV.1 hv).2;refine zb.t (zyk tol)<|⟨λa1=>jo (by unfold zW;rw[kH hv,Xe a1]),λa1=>?_⟩;have ht:=Xa.1 a1;have eQ:zW l tol=if (jf l tol).2≠0 then([],(jf l tol).2) else if 4096<jm (jf l tol).1 then([],5) else((jf l tol).1,0):=by unfold zW;rw[kH hv,kH ht]
 refine⟨Pl,plE,[],rfl,Ob.o2 ?_⟩
 refine⟨Nat×List Pl,λs=>⟨[(0,.sl sgE l),(1,i64 tol),(6,.own 0),(7,i64 (jm s.2:Int)),(8,i64 (s.1:Int))],[(0,.arr 143 plE 2 s.2)],1,47,0⟩,
  λs=>s.1<=l.length/\jf (l.take s.1) tol=(s.2,0)/\(∀y,l[s.1]?=some y->y.v=1)/\s.2.length<=s.1/\∀q∈s.2,q.pts.length<=20000,λs=>l.length-s.1,(0,[]),?_,?_,?_⟩
 ·exact⟨Xh _,rfl,λy hy=>zio hv y hy,Xh _,λq hq=>by cases hq⟩
 ·exact zf [0]
 rintro⟨i,out⟩ ⟨h1,h2,h3,h4,h5⟩
 dsimp only at h1 h2 h3 h4 h5;have hc:=zot h5 out.length (Xk _);rw[X5]at hc;intro hl3;refine⟨λg=>?_,λg=>?_⟩
 ·have g:(i:Int)<l.length:=g;obtain⟨x,hx⟩:∃x,l[i]?=some x:=⟨_,Xb oM⟩;have v1:=h3 x hx;have e:=vP (tol:=tol) hx;rw[h2,zgB,Xe v1]at e;have sp:=zkO (a:=i) ho (l.length-(i+1)) (i+1) [x.a] rfl oM oM e (by show 1<=_;omega);refine zb.t (zvA l i x tol hx oM) ?_;generalize zfd l tol (l.length-(i+1)) (i+1) [x.a]=R at*;obtain⟨p,j,er⟩:=R;refine⟨λk=>?_,λk=>?_⟩
  ·have k:¬er=0:=k
   obtain⟨_,sp⟩|⟨sp,_⟩:=sp
   ·refine jo ?_;dsimp only at sp;rw[eQ,sp,Xe k]
   exact absurd sp k
  have k:er=0:=Xa.1 k
  obtain⟨sp,_⟩|⟨_,s1,s2,s3,s4,s5⟩:=sp
  ·exact absurd k sp
  dsimp only at s1 s2 s3 s4 s5;intro hl6;have hl6:p.pts.length<=9223372036854775807:=hl6;refine Ar.fit (by show _<=(jm out:Int)+(p.pts.length:Int)/\(jm out:Int)+(p.pts.length:Int)<=_;omega)<|⟨Pl,plE,[p],rfl,Ob.o0 ?_⟩;refine⟨[p],rfl,Ob.mk ⟨(by show _*(32:Int)<=_;simp only[Xn,Xr];omega),(by simp only[Xn,Xr];omega),dC,λ_ _=>rfl⟩ ?_⟩
  refine⟨(j,out++[p]),⟨s2,s4,s3,by simp only[Xq,Xn,Xr];omega,λq hq=>?_⟩,
   zT [3] ⟨rfl,rfl,rfl,Xg (λn=>some (i64 n)) (show(jm out:Int)+(p.pts.length:Int)=(jm (out++[p]):Int) by unfold jm;simp),rfl,trivial⟩ ⟨rfl,trivial⟩,by dsimp only;omega⟩
  rcases Xs.1 hq with hq|hq
  ·exact h5 q hq
  rw[Xv.1 hq];omega
 have g:¬(i:Int)<l.length:=g;rw[Xi oM]at h2;rw[eQ,h2,qK rfl];refine⟨λm=>?_,λm=>?_⟩
 ·have m:(4096:Int)<(jm out:Int):=m;exact jo (Xe (show 4096<jm out by omega))
 have m:¬(4096:Int)<(jm out:Int):=m;exact zyB (Xc (show¬4096<jm out by omega))
def zfH:∀(l A:List Pt) (p:Pt),kw (A++[p]) l=A++qU (p::l)
 |[],A,p=>rfl
 |x::r,A,p=>by
  have e:kw (A++[p]) (x::r)=kw (yW (A++[p]) x) r:=rfl;rw[e];unfold yW;rw[JB];have d:qU (p::x::r)=if p=x then qU (x::r) else p::qU (x::r):=rfl
  rw[d]
  by_cases c:p=x
  ·subst c;rw[Xe rfl,Xe rfl];exact zfH r A p
  rw[Xc (λk=>c (Xm k)),Xc c,zfH r (A++[p]) x,XY];rfl
def zqJ(l:List Pt):kw [] l=qU l:=by
 cases l with
 |nil=>rfl
 |cons p r=>exact zfH r [] p
def dd(xs:List Pt)(i:Nat):List Pt:=kw [] (xs.take i)
variable{xs:List Pt}{x:Pt}
def zgL(h:xs[i]?=some x):dd xs (i+1)=yW (dd xs i) x:=by
 unfold dd;exact zhN h
def zD0(xs:List Pt)(i:Nat):(dd xs i).length<=i:=by
 unfold dd;have:=vu (xs.take i) [];rw[Xo]at this;simp at this;omega
def zsu{xs:List Pt}{i:Nat}(h:xs.length<=i):dd xs i=qU xs:=by
 unfold dd;rw[Xi h,zqJ]
def zt0(h:xs[i]?=some z):(dd xs (i+1)).getLast?=some z:=by
 rw[zgL h];exact zql _ _
def zD1(h:xs[0]?=some x):dd xs 1=xs.take 1:=by
 rw[zgL h,Xl,h];rfl
def zov(hz:xs[i]?=some z)(hx:xs[i+1]?=some x)(e:z=x):dd xs (i+2)=dd xs (i+1):=by
 rw[zgL hx];unfold yW;rw[zt0 hz,e,Xe rfl]
def zkP(hz:xs[i]?=some z)(hx:xs[i+1]?=some x)(e:¬z=x):dd xs (i+2)=dd xs (i+1)++[x]:=by
 rw[zgL hx];unfold yW;rw[zt0 hz,Xc (λk=>e (Xm k))]
def zAY(h:xs[i]?=some x):xs.take (i+1)=xs.take i++[x]:=by
 rw[Xl,h];rfl
def zvB(xs:List Pt)(hx:xs.length<=4096):CG0 269 [.own 0] [(0,.arr 28 ptE 2 xs)] (.sl ptE (qU xs)) []:=by
 refine ziw 1 tok mix Tryz.func269 rfl rfl rfl ?_;intro hl1;refine⟨λg=>?_,λg=>?_⟩
 ·have g:(xs.length:Int)<2:=g;refine z0 ?_
  match xs,g with
  |[],_=>rfl
  |[p],_=>rfl
  |_::_::_,g=>exact absurd g (by simp only[Xn];omega)
 have g:¬(xs.length:Int)<2:=g;refine⟨Nat,λi=>⟨[(0,.own 0),(3,i64 ((i:Int)+1))],[(0,.arr 28 ptE 2 xs)],1,61,1⟩,λi=>i+1<=xs.length/\dd xs (i+1)=xs.take (i+1),λi=>xs.length-i,0,?_,?_,?_⟩
 ·exact⟨oM,zD1 (Xb oM)⟩
 ·exact zf [0]
 rintro i ⟨h1,h2⟩
 intro hl3;refine⟨λg4=>?_,λg4=>?_⟩;rotate_left
 ·have g4:¬(i:Int)+1<xs.length:=g4;refine z0 ?_;rw[←zsu (i:=i+1) oM,h2,Xi oM]
 have g4:(i:Int)+1<xs.length:=g4;refine Dr.k<|Ob.mk ⟨oM,g4⟩<|Ob.mk ⟨oM,g4⟩ ?_;intro x hx'
 have hx0:xs[i+1]?=some x:=by
  have h:xs[((i:Int)+1).toNat]?=some x:=hx'
  rwa [show((i:Int)+1).toNat=i+1 by omega]at h
 refine Ar.o<|Ob.o4<|Ob.o4 ?_;intro z hz'
 have hz0:xs[i]?=some z:=by
  have h:xs[((i:Int)+1-1).toNat]?=some z:=hz'
  rwa [show((i:Int)+1-1).toNat=i by omega]at h
 refine⟨λk=>?_,λk=>?_⟩;rotate_left
 ·have k:¬z=x:=λh=>k (qi.2 h.symm)
  refine Ar.o<|⟨i+1,⟨oM,?_⟩,zT [0] ⟨rfl,Xg (λn=>some (i64 n)) oM,trivial⟩ ⟨rfl,trivial⟩,by dsimp only;omega⟩;rw[zkP hz0 hx0 k,h2,zAY hx0]
 have k:z=x:=(qi.1 k).symm;refine Sl.win (Ob.mk ⟨oM,oM,oM,oM⟩ ?_)
 refine⟨Nat×Nat×List Pt,λs=>⟨[(0,.own 0),(3,i64 (s.2.1:Int)),(4,.win 0 2 ((i:Int)+1) ((xs.length:Int)-((i:Int)+1))),(5,i64 ((s.1:Int)+1))],[(0,.arr 28 ptE 2 s.2.2)],1,61,1⟩,
  λs=>i+1+s.1<xs.length/\s.2.2.length=xs.length/\s.2.2.take s.2.1=dd xs (i+s.1+2)/\s.2.1=(dd xs (i+s.1+2)).length/\s.2.1<=i+1+s.1/\∀j,i+1+s.1<=j->s.2.2[j]?=xs[j]?,λs=>xs.length-s.1,(0,i+1,xs),?_,?_,?_⟩
 ·have e:=zov hz0 hx0 k;refine⟨by dsimp only;omega,rfl,?_,?_,by dsimp only;omega,λj _=>rfl⟩
  ·show xs.take (i+1)=dd xs (i+0+2);rw[show i+0+2=i+2 from rfl,e,h2]
  show i+1=(dd xs (i+0+2)).length;rw[show i+0+2=i+2 from rfl,e,h2,Xo];omega
 ·exact zT [0] ⟨rfl,Xg (λn=>some (i64 n)) (show((i+1:Nat):Int)=(i:Int)+1 by omega).symm,rfl,rfl,trivial⟩ ⟨rfl,trivial⟩
 rintro⟨m,q,A⟩ ⟨k1,k2,k3,k4,k5,k6⟩
 dsimp only at k1 k2 k3 k4 k5 k6;refine Ob.o<|Br.mk (λg7=>?_) (λg7=>?_)
 ·have g7:(m:Int)+1<(xs.length:Int)-((i:Int)+1):=g7;refine Dr.k<|Ob.mk ⟨by ((try dsimp only);omega),by ((try dsimp only);omega),g7⟩<|Ob.o11 ?_;intro y hy'
  have hy0:A[i+m+2]?=some y:=by
   have h:A[((i:Int)+1+((m:Int)+1)).toNat]?=some y:=hy'
   rwa [show((i:Int)+1+((m:Int)+1)).toNat=i+m+2 by omega]at h
  have hy1:xs[i+m+2]?=some y:=by rw[←k6 _ oM];exact hy0
  refine Ar.o<|Ob.o23<|Ob.o11 ?_;intro u hu'
  have hu0:A[i+m+1]?=some u:=by
   have h:A[((i:Int)+1+((m:Int)+1-1)).toNat]?=some u:=hu'
   rwa [show((i:Int)+1+((m:Int)+1-1)).toNat=i+m+1 by omega]at h
  have hu1:xs[i+m+1]?=some u:=by rw[←k6 _ oM];exact hu0
  refine⟨λd=>?_,λd=>?_⟩
  ·have d:¬u=y:=λh=>d (qi.2 h.symm)
   have e:=zkP hu1 hy1 d;refine Ob.mk ⟨by ((try dsimp only);omega),by ((try dsimp only);omega),g7⟩<|Ob.o11 ?_;intro y' hy''
   have ey:y'=y:=by
    have h:A[((i:Int)+1+((m:Int)+1)).toNat]?=some y':=hy'';rw[show((i:Int)+1+((m:Int)+1)).toNat=i+m+2 by omega,hy0]at h;exact(Xm h).symm
   rw[ey];refine Ob.o11<|Ob.o11 ?_;intro t _;refine⟨y,rfl,?_⟩;refine Ar.fit (by (try dsimp only);omega)<|Ar.o ?_;have hq:((q:Int)).toNat=q:=XT q
   refine⟨(m+1,q+1,A.set q y),⟨by dsimp only;omega,by rw[XV];exact k2,?_,?_,by dsimp only;omega,λj hj=>?_⟩,
    zT [0] ⟨rfl,Xg (λn=>some (i64 n)) (by (try dsimp only);omega),rfl,Xg (λn=>some (i64 n)) (by (try dsimp only);omega),trivial⟩ ⟨Xg (λa=>some (Mem.arr 28 ptE 2 a)) (by rw[hq]),trivial⟩,by dsimp only;omega⟩
   ·show(A.set q y).take (q+1)=dd xs (i+m+1+2);rw[e,←k3];have hlt:q<(A.set q y).length:=by rw[XV];omega
    rw[Xl,Q5 (Xk q),List.getElem?_set_self oM];rfl
   ·show q+1=(dd xs (i+m+1+2)).length;rw[e,Xq,←k4];rfl
   show(A.set q y)[j]?=xs[j]?;have hj:i+1+(m+1)<=j:=hj;rw[List.getElem?_set_ne oM];exact k6 j oM
  have d:u=y:=(qi.1 (Xa.1 d)).symm;have e:=zov hu1 hy1 d;refine Ar.o ?_
  refine⟨(m+1,q,A),⟨by dsimp only;omega,k2,?_,?_,by dsimp only;omega,λj hj=>k6 j (by dsimp only at hj;omega)⟩,
   zT [0] ⟨rfl,rfl,rfl,Xg (λn=>some (i64 n)) oM,trivial⟩ ⟨rfl,trivial⟩,by dsimp only;omega⟩
  ·show A.take q=dd xs (i+m+1+2);rw[e];exact k3
  show q=(dd xs (i+m+1+2)).length;rw[e];exact k4
 have g7:¬(m:Int)+1<(xs.length:Int)-((i:Int)+1):=g7;refine Sl.win (Ob.mk ⟨by ((try dsimp only);omega),by ((try dsimp only);omega),by ((try dsimp only);omega),by ((try dsimp only);omega)⟩ ?_);refine⟨zp,rfl,Ob.o23 ?_⟩;have hq:((q:Int)).toNat=q:=XT q
 have hl:(A.take (q:Int).toNat++(List.replicate ((A.length:Int)-(q:Int)).toNat zp++A.drop ((q:Int).toNat+((A.length:Int)-(q:Int)).toNat))).length=A.length:=by
  simp only[Xq,Xo,Ki,Kw];omega
 refine Sl.keep (Ob.mk ⟨rfl,by ((try dsimp only);omega),by ((try dsimp only);rw[hl];omega)⟩ ?_);refine z0 ?_;dsimp only;rw[←zsu (i:=i+m+2) oM,←k3,hq,KE (by rw[Xo];omega),Xi (by rw[Xo];omega)]
def zfI(h:p.cl=true):(zt p).pts=qf (qU p.pts):=by unfold zt;dsimp only;rw[Xe h]
def zkQ(h:¬p.cl=true):(zt p).pts=qU p.pts:=by unfold zt;dsimp only;rw[Xc h]
def zhP(l:List Pt):(qU l).length<=l.length:=by
 rw[←zqJ];have:=vu l []
 simpa using this
def zow(h:(zt p).pts=q):LE (.agg [.sl ptE q,pr (p.cl=true)]) (.agg (plE (zt p))):=by
 subst h;exact .refl
def zgM(p:Pl)(hp:p.pts.length<=4096):CG0 192 [.agg (plE p)] [] (.agg (plE (zt p))) []:=by
 refine zc Tryz.func192 ?_;refine zb.fresh _ _ (zoe p.pts hp) rfl (λ_ _=>rfl) (.inr (λ_ _=>rfl))<|zb.give [2] 0 [.own 0] [(0,.arr 28 ptE 2 p.pts)] [] (.sl ptE (qU p.pts)) (zvB p.pts hp) LEs.refl rfl rfl rfl ⟨⟨_,rfl,rfl,trivial⟩,trivial⟩ rfl trivial ?_;have hd:=zhP p.pts
 refine⟨List Pt,λq=>⟨[(1,.loc 0 0),(2,.loc 1 0),(3,.sl ptE q)],[(0,.box 143 [.sl ptE p.pts,pr (p.cl=true)]),(1,.box 143 [.val (.slice none 0 0),.val (.bool false)])],2,36,0⟩,
  λq=>qf q=qf (qU p.pts)/\jA q/\q.length<=4096/\(¬p.cl=true->q=qU p.pts),λq=>q.length,qU p.pts,?_,?_,?_⟩
 ·exact⟨rfl,ue _,oM,λ_=>rfl⟩
 ·exact zf [0,1]
 rintro q ⟨t1,t2,t3,t4⟩
 refine Dr.k<|Br.mk (λc=>?_) (λc=>?_);rotate_left
 ·have c:¬p.cl=true:=c;exact zow (by rw[zkQ c,t4 c])
 have c:p.cl=true:=c;have fin:qf q=q->LE (.agg [.sl ptE q,pr (p.cl=true)]) (.agg (plE (zt p))):=λh=>zow (by rw[zfI c,←t1,h])
 intro hl1;refine⟨λm=>?_,λm=>?_⟩;rotate_left
 ·have m:¬(1:Int)<q.length:=m;exact fin (zgK oM)
 have m:(1:Int)<q.length:=m;intro hl2;refine Ar.o<|Ob.o ?_;intro z hz
 have hz:q[q.length-1]?=some z:=by
  have hz:q[((q.length:Int)-1).toNat]?=some z:=hz
  rwa [show((q.length:Int)-1).toNat=q.length-1 by omega]at hz
 refine Ob.o ?_;intro f hf;have hf:q[0]?=some f:=hf;refine⟨λk=>?_,λk=>?_⟩
 ·have k:z=f:=qi.1 k;have et:=zgJ (show 1<q.length by omega) hz hf k;intro hl4;refine Ar.o<|Ob.mk ⟨⟨dC,oM,oM,oM⟩,λ_ _=>rfl⟩<|⟨q.take (q.length-1),⟨?_,?_,?_,λh=>absurd c h⟩,zT [0,1] ⟨rfl,rfl,Xg (λq=>some (SV.sl ptE q)) (by rw[show((q.length:Int)-1-0).toNat=q.length-1 by omega];rfl),trivial⟩ ⟨rfl,rfl,trivial⟩,?_⟩
  ·rw[←et,zhO t2,t1]
  ·rw[←et];exact zbl t2
  ·rw[Xo];omega
  show(q.take (q.length-1)).length<q.length;rw[Xo];omega
 have k:¬z=f:=λh=>k (qi.2 h)
 exact fin (zi6 hz hf k)
def zi7(p:Pl)(hp:p.pts.length<=4096):CG0 152 [.agg (plE p)] [] (.agg (plE (zt p))) []:=by
 refine u0 1 tok mix Tryz.func152 rfl rfl rfl<|⟨Pt,ptE,[],rfl,Ob.o2 ?_⟩
 refine⟨Nat,λi=>⟨[(1,.loc 0 0),(2,.loc 1 0),(3,.loc 2 0),(4,i64 (i:Int))],
   [(0,.box 143 [.sl ptE p.pts,pr (p.cl=true)]),(1,.box 143 [.val (.slice none 0 0),.val (.bool false)]),(2,.box 143 [.own 3,pr (p.cl=true)]),(3,.arr 28 ptE 2 (dd p.pts i))],4,74,0⟩,
  λi=>i<=p.pts.length,λi=>p.pts.length-i,0,?_,?_,?_⟩
 ·exact Xh _
 ·exact zf [0,1,3,2]
 rintro i hi
 have dl:=zD0 p.pts i;intro hl1;refine⟨λg=>?_,λg=>?_⟩
 ·have g:(i:Int)<p.pts.length:=g;obtain⟨x,hx⟩:∃x,p.pts[i]?=some x:=⟨_,Xb oM⟩;have same:∀{y:Pt},p.pts[(i:Int).toNat]?=some y->y=x:=λh=>Xm ((show p.pts[i]?=some _ from h).symm.trans hx)
  refine Dr.d<|Br.mk (λz=>?_) (λz=>?_)
  ·have z:(i:Int)=0:=z;refine Ob.mk (by kernel_rfl)<|Dr.d<|Ob.o ?_;intro y hy;rw[same hy];refine⟨Pt,ptE,[x],rfl,Ob.o0 ?_⟩;refine⟨[x],rfl,Ob.o3 ?_⟩;refine Ob.mk (by kernel_rfl)<|Ar.o ?_;have i0:i=0:=oM;subst i0;refine⟨1,oM,zu [0,1,2,5] ⟨rfl,rfl,rfl,Xg (λq=>some (Mem.arr 28 ptE 2 q)) ?_,trivial⟩,by dsimp only;omega⟩;rw[zgL hx];rfl
  have z:¬(i:Int)=0:=z;obtain⟨n,rfl⟩:∃n,i=n+1:=⟨i-1,oM⟩;refine Ob.o ?_;intro y hy;rw[same hy];refine Ar.o<|Ob.o ?_;intro u hu
  have hu:p.pts[n]?=some u:=by
   have h:p.pts[(((n+1:Nat):Int)-1).toNat]?=some u:=hu
   rwa [show(((n+1:Nat):Int)-1).toNat=n by omega]at h
  refine Ob.mk (by kernel_rfl)<|⟨λk=>?_,λk=>?_⟩
  ·have k:¬u=x:=λh=>k (qi.2 h.symm)
   refine Dr.d<|Ob.o ?_;intro y hy;rw[same hy];refine⟨Pt,ptE,[x],rfl,Ob.o0 ?_⟩;refine⟨[x],rfl,Ob.o3 ?_⟩;refine Ob.mk (by kernel_rfl)<|Ar.o<|⟨n+2,oM,zT [0,1,2,5] ⟨rfl,rfl,rfl,Xg (λn=>some (i64 n)) oM,trivial⟩ ⟨rfl,rfl,rfl,Xg (λq=>some (Mem.arr 28 ptE 2 q)) ?_,trivial⟩,by dsimp only;omega⟩;rw[zkP hu hx k]
  have k:u=x:=(qi.1 (Xa.1 k)).symm;refine Ar.o<|⟨n+2,oM,zT [0,1,2,3] ⟨rfl,rfl,rfl,Xg (λn=>some (i64 n)) oM,trivial⟩ ⟨rfl,rfl,rfl,Xg (λq=>some (Mem.arr 28 ptE 2 q)) ?_,trivial⟩,by dsimp only;omega⟩;rw[zov hu hx k]
 have g:¬(i:Int)<p.pts.length:=g;have hd:=zhP p.pts
 refine⟨List Pt,λq=>⟨[(1,.loc 0 0),(2,.loc 1 0),(3,.loc 2 0)],
   [(0,.box 143 [.sl ptE p.pts,pr (p.cl=true)]),(1,.box 143 [.val (.slice none 0 0),.val (.bool false)]),(2,.box 143 [.own 3,pr (p.cl=true)]),(3,.arr 28 ptE 2 q)],4,74,0⟩,
  λq=>qf q=qf (qU p.pts)/\jA q/\q.length<=4096/\(¬p.cl=true->q=qU p.pts),λq=>q.length,qU p.pts,?_,?_,?_⟩
 ·exact⟨rfl,ue _,oM,λ_=>rfl⟩
 ·exact zu [0,1,2,3] ⟨rfl,rfl,rfl,Xg (λq=>some (Mem.arr 28 ptE 2 q)) (zsu oM),trivial⟩
 rintro q ⟨t1,t2,t3,t4⟩
 refine Dr.d<|Br.mk (λc=>?_) (λc=>?_);rotate_left
 ·have c:¬p.cl=true:=c;exact Ob.mk (by kernel_rfl)<|zow (by rw[zkQ c,t4 c])
 have c:p.cl=true:=c;have fin:qf q=q->LE (.agg [.sl ptE q,pr (p.cl=true)]) (.agg (plE (zt p))):=λh=>zow (by rw[zfI c,←t1,h])
 intro hl1;refine⟨λm=>?_,λm=>?_⟩;rotate_left
 ·have m:¬(1:Int)<q.length:=m;exact Ob.mk (by kernel_rfl)<|fin (zgK oM)
 have m:(1:Int)<q.length:=m;intro hl2;refine Ar.o<|Ob.o<|Ob.o ?_;intro z hz
 have hz:q[q.length-1]?=some z:=by
  have hz:q[((q.length:Int)-1).toNat]?=some z:=hz
  rwa [show((q.length:Int)-1).toNat=q.length-1 by omega]at hz
 refine Ob.o<|Ob.o ?_;intro f hf;have hf:q[0]?=some f:=hf;refine Ob.mk (by kernel_rfl)<|⟨λk=>?_,λk=>?_⟩
 ·have k:z=f:=qi.1 k;have et:=zgJ (show 1<q.length by omega) hz hf k;intro hl4;refine Ar.o<|Sl.keep (Ob.mk ⟨rfl,oM,oM⟩ ?_);refine⟨q.take (q.length-1),⟨?_,?_,?_,λh=>absurd c h⟩,zu [0,1,2,4] ⟨rfl,rfl,rfl,Xg (λq=>some (Mem.arr 28 ptE 2 q)) (by rw[show((q.length:Int)-1).toNat=q.length-1 by omega]),trivial⟩,?_⟩
  ·rw[←et,zhO t2,t1]
  ·rw[←et];exact zbl t2
  ·rw[Xo];omega
  show(q.take (q.length-1)).length<q.length;rw[Xo];omega
 have k:¬z=f:=λh=>k (qi.2 h)
 exact fin (zi6 hz hf k)
def zCy(a b:Pt)(p:Pen):CG0 347 [.agg (jb p),.agg (ptE a),.agg (ptE b)] [] (.sl ptE (y4 a b p)) []:=by
 refine zc Tryz.func347 ?_;refine⟨λh=>?_,λh=>?_⟩
 ·have h:p.c=5:=h;exact zb.t (p_cap a b p.w)<|z0 (by unfold y4;rw[Xe h])
 have h:¬p.c=5:=h;refine⟨λk=>?_,λk=>?_⟩
 ·have k:p.c=3:=k;exact zb.t (zsl b p.w)<|z0 (by unfold y4;rw[Xc h,Xe k])
 have k:¬p.c=3:=k;have e:y4 a b p=[]:=by unfold y4;rw[Xc h,Xc k]
 rw[e];exact zD
def zyE(a:Pt)(p:Pen):CG0 343 [.agg (ptE a),.agg (jb p)] [] (.sl ptE (zbh a p)) []:=by
 refine zc Tryz.func343 ?_;refine⟨λh=>?_,λh=>?_⟩
 ·have h:p.c=5:=h;exact zb.t (zDI a p.w)<|z0 (by unfold zbh;rw[Xe h])
 have h:¬p.c=5:=h;refine⟨λk=>?_,λk=>?_⟩
 ·have k:p.c=3:=k;exact zb.t (zsl a p.w)<|z0 (by unfold zbh;rw[Xc h,Xe k])
 have k:¬p.c=3:=k;have e:zbh a p=[]:=by unfold zbh;rw[Xc h,Xc k]
 rw[e];exact zD
def zyF(a b:Pt)(p:Pen):CG0 302 [.agg (ptE a),.agg (ptE b),.agg (jb p)] [] (.sl ptE (y4 a b p)) []:=by
 refine zc Tryz.func302 ?_;refine⟨λh=>?_,λh=>?_⟩
 ·have h:p.c=5:=h;exact zb.t (r_cap a b p.w)<|z0 (by unfold y4;rw[Xe h])
 have h:¬p.c=5:=h;refine⟨λk=>?_,λk=>?_⟩
 ·have k:p.c=3:=k;exact zb.t (zsk b p.w)<|z0 (by unfold y4;rw[Xc h,Xe k])
 have k:¬p.c=3:=k;have e:y4 a b p=[]:=by unfold y4;rw[Xc h,Xc k]
 rw[e];exact zD
def zyG(a:Pt)(p:Pen):CG0 301 [.agg (ptE a),.agg (jb p)] [] (.sl ptE (zbh a p)) []:=by
 refine zc Tryz.func301 ?_;refine⟨λh=>?_,λh=>?_⟩
 ·have h:p.c=5:=h;exact zb.t (zDJ a p.w)<|z0 (by unfold zbh;rw[Xe h])
 have h:¬p.c=5:=h;refine⟨λk=>?_,λk=>?_⟩
 ·have k:p.c=3:=k;exact zb.t (zsk a p.w)<|z0 (by unfold zbh;rw[Xc h,Xe k])
 have k:¬p.c=3:=k;have e:zbh a p=[]:=by unfold zbh;rw[Xc h,Xc k]
 rw[e];exact zD
def qn{j:Nat}(h:l[j]?=some x):x=nth l j:=by
 unfold nth;rw[Xt,h];rfl
def zsv(l:List Pt)(i:Int)(j:Nat)(hl:0<l.length/\l.length<=4096)(hi: -1<=i/\i<=l.length)(hj:((i+l.length)%l.length).toNat=j):
  CG0 344 [i64 i,.ptr [.sl ptE l],.ptr [i64 (l.length:Int)]] [] (.agg (ptE (nth l j))) []:=by
 refine zc Tryz.func344 ?_;have m1:=Kb (i+l.length) (show(l.length:Int)≠0 by omega);have m2:=X3 (i+l.length) (show 0<(l.length:Int) by omega);refine Dr.k<|Ar.o<|Dv.pos ⟨oM,oM⟩<|Ob.mk ⟨m1,m2⟩ ?_;intro x hx;have hx:l[j]?=some x:=by rw[←hj];exact hx
 rw[qn hx];exact .refl
def ut(out rs:List (List Pt)):List (List Pt):=out++rs.filter λr=>decide (0<r.length)
def zqK(out:List (List Pt))(r:List Pt):ut out [r]=out++kN r:=by
 unfold ut kN
 cases r with
 |nil=>rfl
 |cons a b=>rfl
def zyH(out:List (List Pt))(r s:List Pt):ut out [r,s]=out++kN r++kN s:=by
 unfold ut kN
 cases r <;> cases s <;> simp
def zeG{out rs:List (List Pt)}{i:Nat}{x:List Pt}(h:rs[i]?=some x):ut out (rs.take (i+1))=if 0<x.length then ut out (rs.take i)++[x] else ut out (rs.take i):=by
 unfold ut;rw[Xl,h]
 by_cases c:0<x.length
 ·rw[Xe c];simp[c]
 rw[Xc c];simp[c]
def zgN(out rs:List (List Pt)):(ut out rs).length<=out.length+rs.length:=by
 unfold ut;rw[Xq];have:=KY (λr:List Pt=>decide (0<r.length)) rs;omega
def zqL{out rs:List (List Pt)}(h:∀r∈rs,0<r.length):ut out rs=out++rs:=by
 unfold ut;congr 1;exact List.filter_eq_self.2 λr hr=>decide_eq_true (h r hr)
def zcg{r:List Pt}(h:q∈kN r):0<q.length:=by
 unfold kN at h
 split at h
 ·cases h
 rename_i k;rw[Xv.1 h];exact X9 λe=>k (Xp e)
def zox{a v b:Pt}{p:Pen}:∀r∈qY a v b p,0<r.length:=by
 intro r hr;unfold qY at hr
 split at hr
 ·cases hr
 split at hr
 ·exact zcg hr
 split at hr
 ·cases hr
 exact zcg hr
def zD2(rs:List (List Pt))(hr:rs.length<=4):CG0 342 [.own 1,.loc 0 0] [(0,.box 67 [.val (.slice none 0 0)]),(1,.arr 127 zk 1 rs)] (.tup []) [(0,.box 67 [.own 2]),(2,.arr 127 zk 1 (ut [] rs))]:=by
 refine yy tok mix Tryz.func342 rfl rfl rfl ?_;intro hl1;refine⟨Nat,λi=>⟨[(1,.loc 0 0),(5,.own 1),(6,i64 (rs.length:Int)),(7,i64 (i:Int))],[(0,.box 67 [.own 2]),(2,.arr 127 zk 1 (ut [] (rs.take i))),(1,.arr 127 zk 1 rs)],3,19,2⟩,λi=>i<=rs.length,λi=>rs.length-i,0,?_,?_,?_⟩
 ·exact Xh _
 ·exact zC [(0,some 0),(1,some 1),(2,none)]
 rintro i hi
 have pl:=zgN ([]:List (List Pt)) (rs.take i);rw[Xo]at pl;refine⟨λg=>?_,λg=>?_⟩
 ·have g:(i:Int)<rs.length:=g;refine Ob.o<|Ob.o ?_;intro x hx;have hx:rs[i]?=some x:=hx;have e:=zeG (out:=([]:List (List Pt))) hx;intro hl3;refine⟨λk=>?_,λk=>?_⟩
  ·have k:(0:Int)<x.length:=k;rw[Xe oM]at e;refine⟨List Pt,zk,[x],rfl,Ob.o0 ?_⟩;refine⟨[x],rfl,Ob.mk ⟨(by show _*(24:Int)<=_;simp only[Xn,Xr]at pl ⊢;omega),(by simp only[Xn,Xr]at pl ⊢;omega),dC,λ_ _=>rfl⟩ ?_⟩;exact Ar.o<|⟨i+1,oM,zu [0,1,4] ⟨rfl,Xg (λq=>some (Mem.arr 127 zk 1 q)) e.symm,rfl,trivial⟩,by dsimp only;omega⟩
  have k:¬(0:Int)<x.length:=k;rw[Xc oM]at e;exact Ar.o<|⟨i+1,oM,zu [0,1,2] ⟨rfl,Xg (λq=>some (Mem.arr 127 zk 1 q)) e.symm,rfl,trivial⟩,by dsimp only;omega⟩
 have g:¬(i:Int)<rs.length:=g;exact⟨⟨[],[(0,.box 67 [.own 2]),(2,.arr 127 zk 1 (ut [] rs))],3,19,2⟩,zu [0,1,2] ⟨rfl,Xg (λq=>some (Mem.arr 127 zk 1 (ut [] q))) (Xi oM),trivial⟩,rfl,.refl⟩
def zyI(out rs:List (List Pt))(ho:out.length<=100000)(hr:rs.length<=4):CG0 342 [.own 2,.loc 0 0] [(0,.box 67 [.own 1]),(1,.arr 127 zk 1 out),(2,.arr 127 zk 1 rs)] (.tup []) [(0,.box 67 [.own 3]),(3,.arr 127 zk 1 (ut out rs))]:=by
 refine yy tok mix Tryz.func342 rfl rfl rfl ?_;intro hl1;refine⟨Nat,λi=>⟨[(1,.loc 0 0),(5,.own 2),(6,i64 (rs.length:Int)),(7,i64 (i:Int))],[(0,.box 67 [.own 3]),(3,.arr 127 zk 1 (ut out (rs.take i))),(2,.arr 127 zk 1 rs)],4,19,3⟩,λi=>i<=rs.length,λi=>rs.length-i,0,?_,?_,?_⟩
 ·exact Xh _
 ·exact zu [0,1,2,1] ⟨rfl,Xg (λq=>some (Mem.arr 127 zk 1 q)) (XE out).symm,rfl,trivial⟩
 rintro i hi
 have pl:=zgN out (rs.take i);rw[Xo]at pl;refine⟨λg=>?_,λg=>?_⟩
 ·have g:(i:Int)<rs.length:=g;refine Ob.o<|Ob.o ?_;intro x hx;have hx:rs[i]?=some x:=hx;have e:=zeG (out:=out) hx;intro hl3;refine⟨λk=>?_,λk=>?_⟩
  ·have k:(0:Int)<x.length:=k;rw[Xe oM]at e;refine⟨List Pt,zk,[x],rfl,Ob.o0 ?_⟩;refine⟨[x],rfl,Ob.mk ⟨(by show _*(24:Int)<=_;simp only[Xn,Xr]at pl ⊢;omega),(by simp only[Xn,Xr]at pl ⊢;omega),dC,λ_ _=>rfl⟩ ?_⟩;exact Ar.o<|⟨i+1,oM,zu [0,1,2,5] ⟨rfl,Xg (λq=>some (Mem.arr 127 zk 1 q)) e.symm,rfl,trivial⟩,by dsimp only;omega⟩
  have k:¬(0:Int)<x.length:=k;rw[Xc oM]at e;exact Ar.o<|⟨i+1,oM,zu [0,1,2,3] ⟨rfl,Xg (λq=>some (Mem.arr 127 zk 1 q)) e.symm,rfl,trivial⟩,by dsimp only;omega⟩
 have g:¬(i:Int)<rs.length:=g;exact⟨⟨[],[(0,.box 67 [.own 3]),(3,.arr 127 zk 1 (ut out rs))],4,19,3⟩,zu [0,1,2,3] ⟨rfl,Xg (λq=>some (Mem.arr 127 zk 1 (ut out q))) (Xi oM),trivial⟩,rfl,.refl⟩
def zD3(out rs:List (List Pt))(ho:out.length<=100000)(hr:rs.length<=4):CG0 342 [.sl zk rs,.loc 0 0] [(0,.box 67 [.own 1]),(1,.arr 127 zk 1 out)] (.tup []) [(0,.box 67 [.own 2]),(2,.arr 127 zk 1 (ut out rs))]:=by
 refine yy tok mix Tryz.func342 rfl rfl rfl ?_;intro hl1;refine⟨Nat,λi=>⟨[(1,.loc 0 0),(5,.sl zk rs),(6,i64 (rs.length:Int)),(7,i64 (i:Int))],[(0,.box 67 [.own 2]),(2,.arr 127 zk 1 (ut out (rs.take i)))],3,19,2⟩,λi=>i<=rs.length,λi=>rs.length-i,0,?_,?_,?_⟩
 ·exact Xh _
 ·exact zu [0,1,1] ⟨rfl,Xg (λq=>some (Mem.arr 127 zk 1 q)) (XE out).symm,trivial⟩
 rintro i hi
 have pl:=zgN out (rs.take i);rw[Xo]at pl;refine⟨λg=>?_,λg=>?_⟩
 ·have g:(i:Int)<rs.length:=g;refine Ob.o ?_;intro x hx;have hx:rs[i]?=some x:=hx;have e:=zeG (out:=out) hx;intro hl3;refine⟨λk=>?_,λk=>?_⟩
  ·have k:(0:Int)<x.length:=k;rw[Xe oM]at e;refine⟨List Pt,zk,[x],rfl,Ob.o0 ?_⟩;refine⟨[x],rfl,Ob.mk ⟨(by show _*(24:Int)<=_;simp only[Xn,Xr]at pl ⊢;omega),(by simp only[Xn,Xr]at pl ⊢;omega),dC,λ_ _=>rfl⟩ ?_⟩;exact Ar.o<|⟨i+1,oM,zu [0,1,4] ⟨rfl,Xg (λq=>some (Mem.arr 127 zk 1 q)) e.symm,trivial⟩,by dsimp only;omega⟩
  have k:¬(0:Int)<x.length:=k;rw[Xc oM]at e;exact Ar.o<|⟨i+1,oM,zu [0,1,2] ⟨rfl,Xg (λq=>some (Mem.arr 127 zk 1 q)) e.symm,trivial⟩,by dsimp only;omega⟩
 have g:¬(i:Int)<rs.length:=g;exact⟨⟨[],[(0,.box 67 [.own 2]),(2,.arr 127 zk 1 (ut out rs))],3,19,2⟩,zu [0,1,2] ⟨rfl,Xg (λq=>some (Mem.arr 127 zk 1 (ut out q))) (Xi oM),trivial⟩,rfl,.refl⟩
def zhQ(out:List (List Pt))(r:List Pt)(ho:out.length<=100000):CG0 300 [.own 0,.sl ptE r] [(0,.arr 127 zk 1 out)] (.own 1) [(1,.arr 127 zk 1 (out++kN r))]:=by
 refine yy tok mix Tryz.func300 rfl rfl rfl ?_;intro hl1;refine⟨λk=>?_,λk=>?_⟩
 ·have k:(r.length:Int)=0:=k;have e:out++kN r=out:=by rw[Xp (show r.length=0 by omega)];unfold kN;rw[Xe rfl,XE]
  rw[e];exact⟨⟨[(4,.own 1)],[(1,.arr 127 zk 1 out)],2,13,1⟩,zf [0,0],rfl,.refl⟩
 have k:¬(r.length:Int)=0:=k;have e:out++kN r=out++[r]:=by unfold kN;rw[Xc (λh=>k (by rw[h];rfl))]
 rw[e];refine⟨List Pt,zk,[r],rfl,Ob.o0 ?_⟩;refine⟨[r],rfl,Ob.o14 ?_⟩;exact⟨⟨[(4,.own 1)],[(1,.arr 127 zk 1 (out++[r]))],2,13,1⟩,zf [0,2],rfl,.refl⟩
def zAZ(p:Pt):CG0 275 [.agg (ptE p)] [] (pr (¬zr p)) []:=by
 refine zc Tryz.func275 ?_;exact zb.t (k8 p)<|zE K7
def zyJ(F:FuncId)(hF:∀p,CG0 F [.agg (ptE p)] [] (pr (¬zr p)) [])(xs:List Pt):CG0 178 [.sl ptE xs,.fn F []] [] (i64 (zis xs)) []:=by
 refine zc Tryz.func178 ?_;intro hl0;refine⟨Int,λi=>⟨[(8,i64 i),(7,i64 xs.length),(0,.sl ptE xs),(1,.fn F [])],[],0,19,0⟩,λi=>0<=i/\i<=xs.length/\∀(j:Nat) q,(j:Int)<i->xs[j]?=some q->zr q,λi=>((xs.length:Int)-i).toNat,0,?_,?_,?_⟩
 ·exact⟨oM,oM,λj q hj=>by omega⟩
 ·exact zC []
 rintro i ⟨h1,h2,h3⟩
 refine⟨λh4=>?_,λh4=>?_⟩
 ·refine Ob.o ?_;intro x hx;refine zb.t (hF x)<|⟨λh5=>?_,λh5=>?_⟩
  ·refine ze ?_;rw[zqb (i:=i.toNat) (λj q hj=>h3 j q oM) hx h5];omega
  refine Ar.o<|⟨i+1,⟨oM,oM,λj q hj hq=>?_⟩,zC [],by dsimp only;omega⟩
  by_cases e:j=i.toNat
  ·subst e;rw[hx]at hq;cases hq;exact Xa.1 h5
  exact h3 j q oM hq
 refine ze (zfy λp hp=>?_).symm;obtain⟨j,hj,he⟩:=Kl hp;exact h3 j p oM (by rw[←he];exact Xb hj)
def zqM(F:FuncId)(hF:∀p,CG0 F [.agg (ptE p)] [] (pr (¬zr p)) [])(xs:List Pt):CG0 118 [.sl ptE xs,.fn F []] [] (pr (¬∀p∈xs,zr p)) []:=by
 refine zc Tryz.func118 ?_;exact zb.t (zyJ F hF xs)<|zE zgy
def vG(rs:List (List Pt)):Prop:=∀r∈rs,∀p∈r,zr p
instance (rs:List (List Pt)):Decidable (vG rs):=inferInstanceAs (Decidable (∀_∈_,_))
def ptsE(rs:List (List Pt)):SV:=.tup [i64 (if vG rs then(qb rs:Int) else 0),pr (vG rs)]
def zkR(rs:List (List Pt))(hs:(qb rs:Int)<=4611686018427387904):CG0 196 [.sl zk rs] [] (ptsE rs) []:=by
 refine zc Tryz.func196 ?_;intro hl1;refine⟨Nat,λi=>⟨[(4,i64 (qb (rs.take i):Int)),(7,.sl zk rs),(8,i64 (rs.length:Int)),(9,i64 (i:Int))],[],0,21,0⟩,λi=>i<=rs.length/\vG (rs.take i),λi=>rs.length-i,0,?_,?_,?_⟩
 ·exact⟨Xh _,λr hr=>by cases hr⟩
 ·exact zC []
 rintro i ⟨h1,h2⟩
 refine⟨λg=>?_,λg=>?_⟩
 ·have g:(i:Int)<rs.length:=g;refine Ob.o ?_;intro x hx;have hx:rs[i]?=some x:=hx;refine zb.t (zqM 275 zAZ x)<|⟨λk=>?_,λk=>?_⟩
  ·have k:¬vG rs:=λh=>k (h x (Xf hx))
   refine zM (ze (by rw[Xc k])) (zd k)
  have k:∀p∈x,zr p:=Xa.1 k;intro hl4;have c1:=vd hx;have c2:=v7 rs (i+1);(iterate 2 refine Ar.o ?_);refine⟨i+1,⟨oM,zcN hx h2 k⟩,jh [] ⟨Xg (λn=>some (i64 n)) oM,rfl,rfl,rfl,trivial⟩ trivial,by dsimp only;omega⟩
 have g:¬(i:Int)<rs.length:=g;rw[Xi oM]at h2;have e:qb (rs.take i)=qb rs:=by rw[Xi oM]
 exact zM (ze (by rw[Xe h2,e])) (zI h2)
def zqN(l:List Pt):CG0 224 [.sl ptE l] [] (pr (∀p∈l,zr p)) []:=by
 refine zc Tryz.func224 ?_;refine⟨Nat,λi=>⟨[(0,.sl ptE l),(3,i64 (i:Int))],[],0,16,0⟩,λi=>i<=l.length/\∀p∈l.take i,zr p,λi=>l.length-i,0,?_,?_,?_⟩
 ·exact⟨Xh _,λp hp=>by cases hp⟩
 ·exact zC []
 rintro i ⟨h1,h2⟩
 intro hl1;refine⟨λg=>?_,λg=>?_⟩
 ·have g:(i:Int)<l.length:=g;refine Ob.o ?_;intro x hx;have hx:l[i]?=some x:=hx;refine zb.t (z9 x)<|⟨λb=>zd λk=>b (k x (Xf hx)),λb=>?_⟩;have b:=Xa.1 b;refine Ar.o<|⟨i+1,⟨oM,λp hp=>?_⟩,zC [],by dsimp only;omega⟩;rw[Xl,hx]at hp
  rcases Xs.1 hp with hp|hp
  ·exact h2 p hp
  simp at hp;rw[hp];exact b
 have g:¬(i:Int)<l.length:=g;rw[Xi oM]at h2;exact zI h2
def zt1(rs:List (List Pt))(hs:(qb rs:Int)<=4611686018427387904):CG0 155 [.sl zk rs] [] (i64 (qb rs:Int)) []:=by
 refine zc Tryz.func155 ?_;refine⟨Nat,λi=>⟨[(0,.sl zk rs),(3,i64 (qb (rs.take i):Int)),(4,i64 (i:Int))],[],0,19,0⟩,λi=>i<=rs.length,λi=>rs.length-i,0,?_,?_,?_⟩
 ·exact Xh _
 ·exact zC []
 rintro i h1
 intro hl1;refine⟨λg=>?_,λg=>?_⟩
 ·have g:(i:Int)<rs.length:=g;refine Ob.o ?_;intro x hx;have hx:rs[i]?=some x:=hx;intro hl4;have c1:=vd hx;have c2:=v7 rs (i+1);(iterate 2 refine Ar.o ?_);refine⟨i+1,oM,jh [] ⟨rfl,Xg (λn=>some (i64 n)) oM,rfl,trivial⟩ trivial,by dsimp only;omega⟩
 have g:¬(i:Int)<rs.length:=g;exact ze (by rw[Xi oM])
end Go.Gs
