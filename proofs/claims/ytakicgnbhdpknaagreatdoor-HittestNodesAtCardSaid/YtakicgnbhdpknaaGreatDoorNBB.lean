/- Paths cut to polylines, the program's. -/
import Derived.Test.YtakicgnbhdpknaaGreatDoorNBA
set_option maxRecDepth 100000
set_option maxHeartbeats 8000000
set_option linter.all false
namespace Go.Gs
open Proofs.Tryz
open Go.Proofs
variable{cl:LZ}{b:SV}
def zos{k:Nat}{y:LR}{n:Int}(hn:n=(cl.length:Int))(h:(jG cl k b)[n.toNat]?=some y):y=[.own k,b]:=by
 subst hn;exact zsn h sI
def zgK{k:Nat}{w:LR}{n:Int}(hn:n=(cl.length:Int)):(jG cl k b).set n.toNat w=cl.map plE++[w]:=by
 subst hn;exact zi7 sI
def zdU{k:Nat}{w y:LR}{n:Int}(hn:n=(cl.length:Int))(h:((jG cl k b).set n.toNat w)[n.toNat]?=some y):y=w:=by
 rw[zgK hn]at h;subst hn;exact zsn h sI
def zvy{k:Nat}{w w':LR}{n:Int}(hn:n=(cl.length:Int)):((jG cl k b).set n.toNat w).set n.toNat w'=cl.map plE++[w']:=by
 rw[zgK hn];subst hn;exact zi7 sI
def zqx{cl:LZ}{p:Pl}{a:Nat}(T:LN):
  ∀(i j:Nat) (x':LR) (s':SV),((cl++[p]).map plE++T)[i]?=some x'->x'[j]?=some s'->∃(x:LR) (s:SV),(jG cl a (pr (p.cl=true))++T)[i]?=some x/\x[j]?=some s/\(s'=s∨(s=.own a/\s'=.sl ptE p.pts)):=by
 intro i j x' s' hx hs;unfold jG;rw[XA]at hx;generalize cl.map plE=L at*
 rcases QB i L.length with h|h|h
 ·rw[XZ,XK h]at hx;exact⟨x',s',by rw[XZ,XK h];exact hx,hs,.inl rfl⟩
 ·subst h;rw[XZ,XG (Xk _)]at hx;simp at hx;subst hx;refine⟨[.own a,pr (p.cl=true)],?_⟩
  match j,hs with
  |0,hs=>simp[plE]at hs;subst hs;exact⟨.own a,sI,rfl,.inr ⟨rfl,rfl⟩⟩
  |1,hs=>simp[plE]at hs;subst hs;exact⟨pr (p.cl=true),sI,rfl,.inl rfl⟩
  |j+2,hs=>simp[plE]at hs
 rw[XG (by simp;omega)]at hx;refine⟨x',s',?_,hs,.inl rfl⟩;rw[XG (by simp;omega)];rw[←hx];congr 1;simp
def zot(p:Pt)(s:Sg)(tol:Int):(kI p s tol).1.length<=64:=by
 unfold kI
 split
 ·unfold zc2;split
  ·exact Xh _
  rename_i h;have ok:=(yP (show(kV _ tol _).2=0 from Xa.1 h)).1;have ok:1<=(jV p s.a s.b tol).1/\(jV p s.a s.b tol).1<=64:=ok;dsimp only;rw[zai];omega
 split
 ·unfold zc3;split
  ·exact Xh _
  rename_i h;have ok:=(yP (show(kV _ tol _).2=0 from Xa.1 h)).1;have ok:1<=(jW p s.a s.b s.c tol).1/\(jW p s.a s.b s.c tol).1<=64:=ok;dsimp only;rw[zai];omega
 show 1<=64;decide
variable{l:LU}{z:Pt}
def zys(h:l[l.length-1]?=some z):qO l=z:=by
 unfold qO;rw[Q1,KT,h];rfl
variable{i:Nat}
def zmQ{l:LZ}{x:Pl}(h:l[i]?=some x):jn (l.take (i+1))=jn (l.take i)+x.pts.length:=by
 unfold jn;rw[Xl,h];simp
def zou{l:LZ}{B:Nat}(h:∀q∈l,q.pts.length<=B):∀i,i<=l.length->jn (l.take i)<=B*i
 |0,_=>Xh _
 |i+1,hi=>by
  have hx:l[i]?=some l[i]:=Xb oM;rw[zmQ hx];have:=zou h i oM;have:=h _ (KI (show i<l.length by omega));rw[YA];omega
def zov(c:LZ×Int):SV:=.tup [.sl plE c.1,i64 c.2]
variable{c:LZ×Int}
def zyt{a:LZ}{b:Int}(h:c=(a,b)):LE (.tup [.sl plE a,i64 b]) (zov c):=by subst h;exact .refl
def jp{b:Int}(h:c=([],b)):LE (.tup [nS,i64 b]) (zov c):=by subst h;exact zM zC .refl
variable{q:LU}{f:Pt}
def zgL(h1:1<q.length)(hz:q[q.length-1]?=some z)(hf:q[0]?=some f)(e:z=f):qf q=q.take (q.length-1):=by
 unfold qf;rw[KT,hz,QI,hf,e,Xe ⟨h1,rfl⟩,List.dropLast_eq_take]
def zi9(hz:q[q.length-1]?=some z)(hf:q[0]?=some f)(e:¬z=f):qf q=q:=by
 unfold qf;rw[KT,hz,QI,hf,Xc (λk=>e (Xm k.2))]
def zgM(h:¬1<q.length):qf q=q:=by
 unfold qf;rw[Xc (λk=>h k.1)]
def zqy(q:LU):(qf q).length<=q.length:=by
 unfold qf;split
 ·rw[QT];omega
 exact Xk _
variable{tol:Int}{p:Pl}
def zqz{s:Sg}(h1:¬s.v=1):ue tol (cl++[p],0) s=if (zbi p s tol).2≠0 then([],(zbi p s tol).2) else(cl++[(zbi p s tol).1],0):=by
 rw[zgC,Xc h1];have e:(cl++[p]).getLastD ⟨[],false⟩=p:=by simp
 rw[e,Jw]
def zAZ{s:Sg}(h:zc7 s):zr s.a/\zr s.b/\zr s.c:=⟨h.1.1,h.2.1.1,h.2.2.1⟩
def zyu(l:LX)(tol:Int):CX 173 [.sl sgE l,i64 tol] (zov (zW l tol)):=by
 refine zc func173<|wg (ziY l)<|⟨λa0=>jp (by unfold zW;rw[Xe a0]),λa0=>?_⟩;have hv:=Xa.1 a0;have hlen:=zhv hv;have ho:=(zaU.1 hv).2;have bad:¬ze8 tol->zW l tol=([],2):=λh=>by unfold zW;rw[kH hv,Xe h]
 refine⟨λa1=>jp (bad (λh=>by have a1:tol<1:=a1;unfold ze8 at h;omega)),λa1=>?_⟩;refine⟨λa2=>jp (bad (λh=>by have a2:256<tol:=a2;unfold ze8 at h;omega)),λa2=>?_⟩;have ht:ze8 tol:=⟨by have a1:¬tol<1:=a1;omega,by have a2:¬256<tol:=a2;omega⟩;have eQ:zW l tol=if (je l tol).2≠0 then([],(je l tol).2) else if 4096<jn (je l tol).1 then([],5) else((je l tol).1,0):=by unfold zW;rw[kH hv,kH ht]
 intro hl3
 refine⟨Nat×Option (LZ×Pl),λq=>match q with
   |(i,none)=>⟨[(1,i64 tol),(6,.val (.slice none 0 0)),(27,.sl sgE l),(28,i64 l.length),(29,i64 i)],[],0,128,0⟩
   |(i,some (cl,p))=>⟨[(1,i64 tol),(6,.own 0),(27,.sl sgE l),(28,i64 l.length),(29,i64 i)],[(0,.garr 193 2 (jG cl 1 (pr (p.cl=true)))),(1,.arr 28 ptE 2 p.pts)],2,128,0⟩,
  λq=>match q with
   |(i,none)=>i=0
   |(i,some (cl,p))=>0<i/\i<=l.length/\je (l.take i) tol=(cl++[p],0)/\cl.length<i/\p.pts.length<=1+64*i/\∀q∈cl,q.pts.length<=20000,λq=>l.length-q.1,(0,none),rfl,?_,?_⟩
 ·exact zB []
 rintro⟨i,_|⟨cl,p⟩⟩ hI
 ·have hI:i=0:=hI;subst hI;refine⟨λg:(0:Int)<l.length=>?_,λg:¬(0:Int)<l.length=>?_⟩
  ·refine Ob.mk ⟨dC,g⟩ λx(hx:l[0]?=some x)=>?_;have hv1:x.v=1:=zim hv x hx;refine⟨λ_=>?_,λh=>absurd hv1 h⟩;refine⟨Pt,ptE,[x.a],rfl,wb0 ?_⟩;refine⟨[[.own 1,.val (.bool false)]],rfl,wb9 ?_⟩;refine Ob.mk ⟨by show((1:Nat):Int)*32<=_;decide,by show 1<=_;decide,dC⟩<|Ar.fit dC ?_;have e:=vO (tol:=tol) hx
   refine⟨(1,some ([],⟨[x.a],false⟩)),⟨dC,oM,?_,dC,by show 1<=_;decide,λq hq=>by cases hq⟩,
    (zeC 3 rfl (ys:=jG [] 1 (pr ((⟨[x.a],false⟩:Pl).cl=true))) (.cons (.C (.cons (zd (show¬(false=true) by decide)) .nil)) .nil)).trans (zu [3,1] ⟨⟨_,rfl,v8 rfl⟩,rfl,tV⟩),by show l.length-1<l.length-0;omega⟩
   rw[e];show ue tol ([],0) x=_;rw[zgC,Xe hv1]
  have hl0:l=[]:=Xp oM;refine⟨Unit,λ_=>⟨[(6,nS),(13,i64 0),(114,i64 0),(115,i64 0)],[],0,128,0⟩,λ_=>True,λ_=>0,(),tV,zB [],?_⟩
  rintro⟨⟩ _
  refine⟨λg=>absurd g dC,λ_=>?_⟩;refine⟨λg=>absurd g dC,λ_=>?_⟩;refine jp ?_;rw[eQ,hl0];rfl
 obtain⟨k0,k1,k2,k3,k4,k5⟩:0<i/\i<=l.length/\je (l.take i) tol=(cl++[p],0)/\cl.length<i/\p.pts.length<=1+64*i/\∀q∈cl,q.pts.length<=20000:=hI;have inv:=zkx (tol:=tol) (lo:=⟨-1048576,-1048576⟩) (hi:=⟨1048576,1048576⟩) ho (λp hp=>zx5 hv p hp) i k1 (by rw[k2]);rw[k2]at inv;obtain⟨pne,_,pok⟩:=inv.2 p sI;have hp1:0<p.pts.length:=Ka λh=>pne (Xp h)
 refine⟨λg:(i:Int)<l.length=>?_,λg:¬(i:Int)<l.length=>?_⟩
 ·refine Ob.mk ⟨oM,g⟩ λx(hx:l[i]?=some x)=>?_;have e:=vO (tol:=tol) hx;rw[k2]at e;have hf:=zAZ (zkB ho x (Xf hx));refine⟨λv1:x.v=1=>?_,λv1:¬x.v=1=>?_⟩
  ·refine⟨Pt,ptE,[x.a],rfl,wb0 ?_⟩;refine⟨[[.own 3,.val (.bool false)]],rfl,wb9 ?_⟩;refine Ob.mk ⟨by show _*(32:Int)<=_;rw[zaj];simp only[Xn,Xr];omega,by rw[zaj];simp only[Xn,Xr];omega,dC⟩<|wa ?_
   refine⟨(i+1,some (cl++[p],⟨[x.a],false⟩)),⟨oM,oM,?_,?_,?_,?_⟩,
    ((zeC 5 rfl (ys:=jG cl 1 (pr (p.cl=true))++[[.own 3,pr ((⟨[x.a],false⟩:Pl).cl=true)]]) (Rows.app .refl (.cons (.C (.cons (zd (show¬(false=true) by decide)) .nil)) .nil))).trans
     (zcB (sz0:=2) (T0:=193) 1 5 (enc:=ptE) (ys:=p.pts) rfl rfl (xs':=jG (cl++[p]) 3 (pr ((⟨[x.a],false⟩:Pl).cl=true))) (by simp[jG]) (λz hz=>?_) (zqx _))).trans
     (zu [5,3] ⟨⟨_,rfl,v8 rfl⟩,rfl,tV⟩),by show l.length-(i+1)<l.length-i;omega⟩
   ·rw[e,zgC,Xe v1]
   ·simp only[Xq,Xn,Xr];omega
   ·show 1<=_;omega
   ·intro q hq
    rcases Xs.1 hq with hq|hq
    ·exact k5 q hq
    rw[Xu.1 hq];omega
   rcases Xs.1 hz with hz|hz
   ·obtain⟨w,_,rfl⟩:=XO.1 hz;rfl
   rw[Xu.1 hz];rfl
  rw[zqz v1]at e;intro hl6;refine wa ?_;have hrl:=zaj cl 1 (pr (p.cl=true));have hN:((jG cl 1 (pr (p.cl=true))).length:Int)-1=cl.length:=by rw[hrl];omega
  have hrow:0<=((jG cl 1 (pr (p.cl=true))).length:Int)-1/\((jG cl 1 (pr (p.cl=true))).length:Int)-1<(jG cl 1 (pr (p.cl=true))).length:=oM;refine Ob.mk hrow<|Br.mk (λv5=>?_) (λv5=>?_)
  ·have v5:¬x.v=5:=v5;refine wd<|Ob.mk hrow λy hy=>?_;obtain rfl:=zos hN hy;refine Ob.mk hrow λy hy=>?_;obtain rfl:=zos hN hy;intro hl8;refine wa<|wb<|wb λz hz=>?_
   have hz:p.pts[p.pts.length-1]?=some z:=by
    have hz:p.pts[((p.pts.length:Int)-1).toNat]?=some z:=hz
    rwa [show((p.pts.length:Int)-1).toNat=p.pts.length-1 by omega]at hz
   have hlz:=zys hz
   have eg:zbi p x tol=if (kI z x tol).2≠0 then(p,(kI z x tol).2) else(⟨kw p.pts (kI z x tol).1,p.cl⟩,0):=by
    unfold zbi;rw[Xc v5,hlz]
   refine wg (p_seg z x tol (pok z (Xf hz)) hf)<|wh ?_;have sl:=zot z x tol;refine⟨λk:¬(kI z x tol).2=0=>?_,λk=>?_⟩
   ·refine jp ?_;rw[Xe k]at eg;rw[eg,Xe k]at e;have:=zmx hx (by rw[e];exact k);rw[e]at this;rw[eQ,this,Xe k]
   have k:(kI z x tol).2=0:=Xa.1 k;rw[qH k]at eg;rw[eg,qH rfl]at e
   refine zb.give [0,1] 1 [.eloc 0 2 (cl.length:Int) 0,.sl ptE (kI z x tol).1] [(0,.garr 193 2 (jG cl 1 (pr (p.cl=true)))),(1,.arr 28 ptE 2 p.pts)]
    [(0,.garr 193 2 (jG cl 2 (pr (p.cl=true)))),(2,.arr 28 ptE 2 (kw p.pts (kI z x tol).1))] (.tup []) (zDV cl p.pts (kI z x tol).1 (p.cl=true) oM sl oM)
    (.cons (ua (Xg (λn=>SV.eloc 0 2 n 0) hN)) (.C .nil)) rfl rfl rfl ⟨⟨_,rfl,Xg (λq=>some (Mem.garr 193 2 q)) (zqt [0,1] _ cl 1 _ _).symm,zyq rfl cl _ _⟩,⟨_,rfl,rfl,tV⟩,tV⟩ rfl ⟨⟨rfl,zyr rfl cl _ _⟩,⟨rfl,tV⟩,tV⟩ ?_
   refine wa ?_
   refine⟨(i+1,some (cl,⟨kw p.pts (kI z x tol).1,p.cl⟩)),⟨oM,oM,e,oM,?_,k5⟩,
    zu [0,3] ⟨⟨_,Xg (λq=>some (Mem.garr 193 2 q)) (zqt [0,1] 3 cl 2 _ _),v8 rfl⟩,rfl,tV⟩,by show l.length-(i+1)<l.length-i;omega⟩
   have:=vt (kI z x tol).1 p.pts;show(kw p.pts (kI z x tol).1).length<=_;omega
  have v5:x.v=5:=Xa.1 v5;have eg:zbi p x tol=(⟨qf p.pts,true⟩,0):=by unfold zbi;rw[Xe v5]
  rw[eg,qH rfl]at e;refine Ob.mk hrow λy hy=>?_;obtain rfl:=zos hN hy;have hrow2:∀w:LR,0<=((jG cl 1 (pr (p.cl=true))).length:Int)-1/\((jG cl 1 (pr (p.cl=true))).length:Int)-1<((jG cl 1 (pr (p.cl=true))).set (((jG cl 1 (pr (p.cl=true))).length:Int)-1).toNat w).length:=λw=>by rw[XV];omega
  refine Ob.mk (hrow2 _) λy hy=>?_;obtain rfl:=zdU hN hy;intro hl8
  have fin:∀{σ:St} (q:LU),qf p.pts=q->Sub σ ⟨[(1,i64 tol),(6,.own 0),(27,.sl sgE l),(28,i64 l.length),(29,i64 ((i+1:Nat):Int))],[(0,.garr 193 2 (jG cl 1 (pr ((⟨qf p.pts,true⟩:Pl).cl=true)))),(1,.arr 28 ptE 2 q)],2,128,0⟩->
    ∃x',(match x' with
     |(i,none)=>i=0
     |(i,some (cl,p))=>0<i/\i<=l.length/\je (l.take i) tol=(cl++[p],0)/\cl.length<i/\p.pts.length<=1+64*i/\∀q∈cl,q.pts.length<=20000:Prop)/\
    Sub σ (match x' with
     |(i,none)=>⟨[(1,i64 tol),(6,.val (.slice none 0 0)),(27,.sl sgE l),(28,i64 l.length),(29,i64 i)],[],0,128,0⟩
     |(i,some (cl,p))=>⟨[(1,i64 tol),(6,.own 0),(27,.sl sgE l),(28,i64 l.length),(29,i64 i)],[(0,.garr 193 2 (jG cl 1 (pr (p.cl=true)))),(1,.arr 28 ptE 2 p.pts)],2,128,0⟩)/\l.length-x'.1<l.length-(i,some (cl,p)).1:=λq hq hs=>by
   refine⟨(i+1,some (cl,⟨qf p.pts,true⟩)),⟨oM,oM,e,oM,?_,k5⟩,?_,by show l.length-(i+1)<l.length-i;omega⟩
   ·have:=zqy p.pts;show(qf p.pts).length<=_;omega
   subst hq;exact hs
  refine wd<|Br.mk (λm=>?_) (λm=>?_)
  ·have m:(1:Int)<p.pts.length:=m;refine Ob.mk (hrow2 _) λy hy=>?_;obtain rfl:=zdU hN hy;refine wa<|wb<|wb λz hz=>?_
   have hz:p.pts[p.pts.length-1]?=some z:=by
    have hz:p.pts[((p.pts.length:Int)-1).toNat]?=some z:=hz
    rwa [show((p.pts.length:Int)-1).toNat=p.pts.length-1 by omega]at hz
   refine Ob.mk (hrow2 _) λy hy=>?_;obtain rfl:=zdU hN hy;refine wb<|wb λf(hf:p.pts[0]?=some f)=>?_;refine wh<|⟨λk=>?_,λk=>?_⟩
   ·have k:z=f:=qi.1 k;refine Ob.mk (hrow2 _) λy hy=>?_;obtain rfl:=zdU hN hy;refine wa<|Sl.keep (Ob.mk ⟨rfl,oM,oM⟩ ?_);refine Ob.mk (hrow2 _) λy hy=>?_;obtain rfl:=zdU hN hy;refine wa<|fin (p.pts.take ((p.pts.length:Int)-1).toNat) ?_ ?_;rotate_left
    ·exact(zeC 0 (by exact Xg (λq=>some (Mem.garr 193 2 q)) (zvy hN)) (ys:=jG cl 3 (pr ((⟨qf p.pts,true⟩:Pl).cl=true))) (Rows.app .refl (.cons (.C (.cons (zH rfl) .nil)) .nil))).trans
      (zu [0,3] ⟨⟨_,rfl,v8 rfl⟩,rfl,tV⟩)
    rw[show((p.pts.length:Int)-1).toNat=p.pts.length-1 by omega];exact zgL oM hz hf k
   have k:¬z=f:=λh=>k (qi.2 h)
   refine wa<|fin p.pts (zi9 hz hf k) ?_
   exact((zeC 0 (by exact Xg (λq=>some (Mem.garr 193 2 q)) (zgK hN)) (ys:=jG cl 1 (pr ((⟨qf p.pts,true⟩:Pl).cl=true))) (Rows.app .refl (.cons (.C (.cons (zH rfl) .nil)) .nil))).trans
    (zu [0,1] ⟨⟨_,rfl,v8 rfl⟩,rfl,tV⟩))
  have m:¬(1:Int)<p.pts.length:=m;refine wh<|wa<|fin p.pts (zgM oM) ?_
  exact((zeC 0 (by exact Xg (λq=>some (Mem.garr 193 2 q)) (zgK hN)) (ys:=jG cl 1 (pr ((⟨qf p.pts,true⟩:Pl).cl=true))) (Rows.app .refl (.cons (.C (.cons (zH rfl) .nil)) .nil))).trans
   (zu [0,1] ⟨⟨_,rfl,v8 rfl⟩,rfl,tV⟩))
 have hi:l.take i=l:=Xi oM;rw[hi]at k2
 have hout:∀q∈cl++[p],q.pts.length<=20000:=λq hq=>by
  rcases Xs.1 hq with hq|hq
  ·exact k5 q hq
  rw[Xu.1 hq];omega
 have hlo:(cl++[p]).length=cl.length+1:=by simp
 rw[eQ,k2,qH rfl];intro hl12;refine⟨Nat,λk=>⟨[(6,.own 0),(13,i64 (jn ((cl++[p]).take k):Int)),(113,.own 0),(114,i64 ((cl++[p]).length:Int)),(115,i64 k)],[(0,.arr 193 plE 2 (cl++[p]))],1,128,0⟩,λk=>k<=(cl++[p]).length,λk=>(cl++[p]).length-k,0,?_,?_,?_⟩
 ·exact Xh _
 ·exact((zcB (sz0:=2) (T0:=193) 1 0 (enc:=ptE) (ys:=p.pts) rfl rfl (xs':=(cl++[p]).map plE) (by rw[zaj,Xx,hlo]) (λz hz=>by obtain⟨w,_,rfl⟩:=XO.1 hz;rfl)
   (λi j x' s' hx hs=>by have:=zqx (cl:=cl) (p:=p) (a:=1) [] i j x' s' (by rwa [XE]) hs;rwa [XE]at this)).trans (zgg 0 plE (cl++[p]) rfl (λ_ _=>rfl))).trans
   (zS [0] ⟨rfl,rfl,rfl,iR (by rw[zaj,hlo]),rfl,tV⟩ ⟨rfl,tV⟩)
 rintro k hk
 have hc:=zou hout k hk;refine⟨λg:(k:Int)<(cl++[p]).length=>?_,λg:¬(k:Int)<(cl++[p]).length=>?_⟩
 ·refine wb<|wb λq(hq:(cl++[p])[k]?=some q)=>?_;intro hl14;have:=hout q (Xf hq);(iterate 2 refine wa ?_);refine⟨k+1,oM,zS [0] ⟨rfl,iR (by rw[zmQ hq];omega),rfl,rfl,rfl,tV⟩ ⟨rfl,tV⟩,oN⟩
 have hk:(cl++[p]).take k=cl++[p]:=Xi oM;refine⟨λm:(4096:Int)<(jn ((cl++[p]).take k):Int)=>?_,λm:¬(4096:Int)<(jn ((cl++[p]).take k):Int)=>?_⟩
 ·rw[hk]at m;exact jp (Xe (show 4096<jn (cl++[p]) by omega))
 rw[hk]at m;exact zyt (Xc (show¬4096<jn (cl++[p]) by omega))
def zhN(h:jB l):qf (qf l)=qf l:=by
 have:=zmw h;generalize qf l=m at*;unfold qf;rw[Xc (λk=>this k.1 k.2)]
def zfc(l:LX)(tol:Int):Nat->Nat->LU->Pl×Nat×Int
 |0,i,q=>(⟨q,false⟩,i,0)
 |k+1,i,q=>match l[i]? with
  |none=>(⟨q,false⟩,i,0)
  |some s=>if s.v=1 then(⟨q,false⟩,i,0) else if s.v=5 then(⟨qf q,true⟩,i+1,0)
   else if (kI (qO q) s tol).2≠0 then(⟨[],false⟩,0,(kI (qO q) s tol).2) else zfc l tol k (i+1) (kw q (kI (qO q) s tol).1)
def zkL{l:LX}{s:Sg}(h:l[i]?=some s):zfc l tol (l.length-i) i q=
  if s.v=1 then(⟨q,false⟩,i,0) else if s.v=5 then(⟨qf q,true⟩,i+1,0)
   else if (kI (qO q) s tol).2≠0 then(⟨[],false⟩,0,(kI (qO q) s tol).2) else zfc l tol (l.length-(i+1)) (i+1) (kw q (kI (qO q) s tol).1):=by
 have hi:=(Xd.1 h).1;rw[show l.length-i=(l.length-(i+1))+1 by omega,zfc,h]
def zmR{l:LX}(h:l.length<=i):zfc l tol (l.length-i) i q=(⟨q,false⟩,i,0):=by
 rw[show l.length-i=0 by omega];rfl
def SubOK(l:LX)(tol:Int)(a:Nat)(out:LZ)(r:Pl×Nat×Int):Prop:=
 (r.2.2≠0/\je l tol=([],r.2.2))∨(r.2.2=0/\a<r.2.1/\r.2.1<=l.length/\(∀y,l[r.2.1]?=some y->y.v=1)/\je (l.take r.2.1) tol=(out++[r.1],0)/\r.1.pts.length<=1+64*l.length)
def zkM{l:LX}{tol:Int}{a:Nat}{out:LZ}(ho:oks 5 l):∀(k i:Nat) (q:LU),k=l.length-i->a<i->i<=l.length->je (l.take i) tol=(out++[⟨q,false⟩],0)->q.length<=1+64*i->SubOK l tol a out (zfc l tol (l.length-i) i q)
 |0,i,q,hk,h1,h2,h3,h4=>by
  rw[zmR oM];exact .inr ⟨rfl,h1,h2,λy hy=>by have:=(Xd.1 hy).1;dsimp only at this;omega,h3,by show q.length<=_;omega⟩
 |k+1,i,q,hk,h1,h2,h3,h4=>by
  have hi:i<l.length:=oM;have hx:l[i]?=some l[i]:=Xb hi;have e:=vO (tol:=tol) hx;rw[h3]at e;rw[zkL hx];generalize l[i]=s at*
  by_cases v1:s.v=1
  ·rw[Xe v1];exact .inr ⟨rfl,h1,h2,λy hy=>by have hy:l[i]?=some y:=hy;rw[hx]at hy;rw[←Xm hy];exact v1,h3,by show q.length<=_;omega⟩
  rw[Xc v1];rw[zqz v1]at e
  by_cases v5:s.v=5
  ·rw[Xe v5];have eg:zbi ⟨q,false⟩ s tol=(⟨qf q,true⟩,0):=by unfold zbi;rw[Xe v5]
   rw[eg,qH rfl]at e;refine .inr ⟨rfl,by show a<i+1;omega,by show i+1<=_;omega,λy hy=>?_,e,?_⟩
   ·have he:=zsg ho hy;have hl:zqd 5 l (i+1)=s.v:=zkw hx;dsimp only at he;rw[hl,v5]at he;exact(uW.1 he).2.1.resolve_right λh=>h.1 rfl
   have:=zqy q;show(qf q).length<=_;omega
  rw[Xc v5];have eg:zbi ⟨q,false⟩ s tol=if (kI (qO q) s tol).2≠0 then(⟨q,false⟩,(kI (qO q) s tol).2) else(⟨kw q (kI (qO q) s tol).1,false⟩,0):=by unfold zbi;rw[Xc v5]
  by_cases k0:(kI (qO q) s tol).2=0
  ·rw[qH k0]at eg ⊢;rw[eg,qH rfl]at e;have h5:=vt (kI (qO q) s tol).1 q;have h6:=zot (qO q) s tol;exact zkM ho k (i+1) _ oM oM oM e oM
  rw[Xe k0]at eg ⊢;rw[eg,Xe k0]at e;have:=zmx hx (by rw[e];exact k0);rw[e]at this;exact .inl ⟨k0,this⟩
def zDX{p:Pt}{s:Sg}(h:(kI p s tol).2=0):(kI p s tol).1≠[]:=by
 have up:∀(f:Int->Pt) (n:Nat),1<=n->zb4 f n≠[]:=λf n hn e=>by
  have:=zai f n;rw[e]at this;simp at this;omega
 unfold kI at h ⊢
 by_cases h3:s.v=3
 ·rw[Xe h3]at h ⊢;have k:(jV p s.a s.b tol).2=0:=Xa.1 λk=>k (by rw[zhJ k]at h;exact h)
  have ok:=(yP (show(kV _ tol _).2=0 from k)).1;have ok:1<=(jV p s.a s.b tol).1/\(jV p s.a s.b tol).1<=64:=ok;rw[zkJ k];dsimp only;exact up _ _ (show 1<=(jV p s.a s.b tol).1.toNat by omega)
 rw[Xc h3]at h ⊢
 by_cases h4:s.v=4
 ·rw[Xe h4]at h ⊢;have k:(jW p s.a s.b s.c tol).2=0:=Xa.1 λk=>k (by rw[zhL k]at h;exact h)
  have ok:=(yP (show(kV _ tol _).2=0 from k)).1;have ok:1<=(jW p s.a s.b s.c tol).1/\(jW p s.a s.b s.c tol).1<=64:=ok;rw[zkK k];dsimp only;exact up _ _ (show 1<=(jW p s.a s.b s.c tol).1.toNat by omega)
 rw[Xc h4];simp
def subE(r:Pl×Nat×Int):SV:=.tup [ws r.1,i64 (r.2.1:Int),i64 r.2.2]
def zso{q more:LU}{z:Pt}(h:more[more.length-1]?=some z):qO (kw q more)=z:=by
 have hne:more≠[]:=λe=>by rw[e]at h;simp at h
 unfold qO;rw[Q1,zmv more q hne,KT,h];rfl
def zvz(l:LX)(a:Nat)(x:Sg)(tol:Int)(hx:l[a]?=some x)(hlen:l.length<=300):
  CX 223 [.sl sgE l,i64 a,i64 tol] (subE (zfc l tol (l.length-(a+1)) (a+1) [x.a])):=by
 have ha:=(Xd.1 hx).1;refine uY 1 tok mix func223 rfl rfl rfl<|wb5 λx' hx'=>?_;have ex:x'=x:=Xm ((show l[a]?=some x' from hx').symm.trans hx);rw[ex];refine⟨Pt,ptE,[x.a],rfl,wb0 ?_⟩;refine wa ?_;generalize hR:zfc l tol (l.length-(a+1)) (a+1) [x.a]=R
 refine⟨Nat×LU,λs=>⟨[(0,.sl sgE l),(2,i64 tol),(6,.loc 0 0),(9,.loc 1 0),(10,.loc 2 0),(11,i64 (s.1:Int))],
   [(0,.box 193 [nS,.val (.bool false)]),(1,.box 28 (ptE (qO s.2))),(2,.box 193 [.own 3,.val (.bool false)]),(3,.arr 28 ptE 2 s.2)],4,102,0⟩,
  λs=>a<s.1/\s.1<=l.length/\zfc l tol (l.length-s.1) s.1 s.2=R/\jB s.2/\s.2≠[]/\s.2.length<=1+64*s.1,λs=>l.length-s.1,(a+1,[x.a]),?_,?_,?_⟩
 ·exact⟨oN,oN,hR,⟨λ_ h=>(by cases h),tV⟩,sI,by show 1<=_;omega⟩
 ·exact zS [0,1,3,2] ⟨rfl,rfl,rfl,rfl,rfl,iR (show((a+1:Nat):Int)=(a:Int)+1 by omega).symm,tV⟩ ⟨rfl,rfl,rfl,rfl,tV⟩
 rintro⟨i,q⟩ ⟨h1,h2,h3,h4,h5,h6⟩
 dsimp only at h1 h2 h3 h4 h5 h6;have hq1:0<q.length:=Ka λh=>h5 (Xp h)
 have out:(l.length<=i∨∃s,l[i]?=some s/\s.v=1)->R=(⟨q,false⟩,i,0):=λh=>by
  rw[←h3]
  rcases h with h|⟨s,hs,hv⟩
  ·exact zmR h
  rw[zkL hs,Xe hv]
 have fin:R=(⟨q,false⟩,i,0)->LE (.tup [.agg [.sl ptE q,bl false],i64 i,i64 0]) (subE R):=λh=>by
  rw[h];exact zbO (.cons (jj (.C (.cons (zd (show¬(false=true) by decide)) .nil))) (.C (.C .nil)))
 intro hl1;refine⟨λg=>?_,λg=>?_⟩;rotate_left
 ·have g:¬(i:Int)<l.length:=g;exact fin (out (.inl oM))
 have g:(i:Int)<l.length:=g;refine wb λs(hs:l[i]?=some s)=>?_;refine⟨λv1=>?_,λv1=>?_⟩;rotate_left
 ·have v1:s.v=1:=Xa.1 v1;exact fin (out (.inr ⟨s,hs,v1⟩))
 have v1:¬s.v=1:=v1;rw[zkL hs,Xc v1]at h3;refine wb λs' hs'=>?_;have es:s'=s:=Xm ((show l[i]?=some s' from hs').symm.trans hs);rw[es];refine⟨λv5:s.v=5=>?_,λv5:¬s.v=5=>?_⟩
 ·rw[Xe v5]at h3
  refine⟨LU,λq'=>⟨[(6,.loc 0 0),(10,.loc 2 0),(11,i64 i)],
    [(0,.box 193 [nS,.val (.bool false)]),(2,.box 193 [.own 3,.val (.bool true)]),(3,.arr 28 ptE 2 q')],4,102,0⟩,
   λq'=>qf q'=qf q/\jB q'/\q'.length<=q.length,λq'=>q'.length,q,?_,?_,?_⟩
  ·exact⟨rfl,h4,Xk _⟩
  ·exact zB [(0,some 0),(2,some 2),(3,some 3)]
  rintro q' ⟨t1,t2,t3⟩
  have fin2:qf q'=q'->LE (.tup [.agg [.sl ptE q',bl true],i64 ((i:Int)+1),i64 0]) (subE R):=λh=>by
   rw[←h3,←t1,h];exact zbO (.cons (jj (.C (.cons (zH rfl) .nil))) (.cons (ze (show(i:Int)+1=((i+1:Nat):Int) by omega)) (.C .nil)))
  refine wd λhl4=>?_;refine⟨λm:(1:Int)<q'.length=>?_,λm:¬(1:Int)<q'.length=>?_⟩
  ·intro hl5;refine wa<|wb<|wb λz hz=>?_
   have hz:q'[q'.length-1]?=some z:=by
    have hz:q'[((q'.length:Int)-1).toNat]?=some z:=hz
    rwa [show((q'.length:Int)-1).toNat=q'.length-1 by omega]at hz
   refine wb<|wb λf(hf:q'[0]?=some f)=>?_;refine wh<|⟨λk=>?_,λk=>?_⟩
   ·have k:z=f:=qi.1 k;have et:=zgL (show 1<q'.length by omega) hz hf k;intro hl7;refine wa<|Sl.keep (Ob.mk ⟨rfl,oM,oM⟩ ?_);refine⟨q'.take (q'.length-1),⟨?_,?_,?_⟩,zby [(0,some 0),(2,some 2),(3,some 4)] ⟨rfl,rfl,aR (by rw[show((q'.length:Int)-1).toNat=q'.length-1 by omega]),tV⟩,?_⟩
    ·rw[←et,zhN t2,t1]
    ·rw[←et];exact zbj t2
    ·rw[Xo];omega
    show(q'.take (q'.length-1)).length<q'.length;rw[Xo];omega
   have k:¬z=f:=λh=>k (qi.2 h)
   exact wa<|fin2 (zi9 hz hf k)
  exact wh<|wa<|fin2 (zgM oM)
 rw[Xc v5]at h3;refine wd<|wb λs' hs'=>?_;have es:s'=s:=Xm ((show l[i]?=some s' from hs').symm.trans hs);rw[es];refine wg (r_seg (qO q) s tol)<|wh<|⟨λk=>?_,λk=>?_⟩
 ·have k:¬(kI (qO q) s tol).2=0:=k;rw[Xe k]at h3;rw[←h3];exact zbO (.cons (jj (.cons zC (.cons (zd (show¬(false=true) by decide)) .nil))) (.C (.C .nil)))
 have k:(kI (qO q) s tol).2=0:=Xa.1 k;rw[qH k]at h3;have sl:=zot (qO q) s tol;have sn:=zDX k;have sn1:0<(kI (qO q) s tol).1.length:=Ka λh=>sn (Xp h)
 have pl:=vt (kI (qO q) s tol).1 q
 refine zb.give [3] 1 [.own 0,.sl ptE (kI (qO q) s tol).1] [(0,.arr 28 ptE 2 q)] [(1,.arr 28 ptE 2 (kw q (kI (qO q) s tol).1))] (.own 1) (zDW q (kI (qO q) s tol).1 oM sl)
  LEs.refl rfl rfl rfl ⟨⟨_,rfl,rfl,tV⟩,tV⟩ rfl ⟨⟨rfl,tV⟩,tV⟩ ?_
 intro hl9;refine wa<|wb λz hz=>?_
 have hz:(kI (qO q) s tol).1[(kI (qO q) s tol).1.length-1]?=some z:=by
  have hz:(kI (qO q) s tol).1[(((kI (qO q) s tol).1.length:Int)-1).toNat]?=some z:=hz
  rwa [show(((kI (qO q) s tol).1.length:Int)-1).toNat=(kI (qO q) s tol).1.length-1 by omega]at hz
 have elp:=zso (q:=q) hz;refine wa ?_
 refine⟨(i+1,kw q (kI (qO q) s tol).1),⟨oN,oN,h3,zfD _ h4,zoj _ h5,oN⟩,
  zu [0,1,2,4] ⟨rfl,?_,rfl,rfl,tV⟩,oN⟩
 exact bR ptE elp.symm
def zyv(l:LX)(tol:Int):CX 154 [.sl sgE l,i64 tol] (zov (zW l tol)):=by
 refine zc func154<|wg (zgq l)<|⟨λa0=>jp (by unfold zW;rw[Xe a0]),λa0=>?_⟩;have hv:=Xa.1 a0;have hlen:=zhv hv;have ho:=(zaU.1 hv).2;refine wg (zyc tol)<|⟨λa1=>jp (by unfold zW;rw[kH hv,Xe a1]),λa1=>?_⟩;have ht:=Xa.1 a1;have eQ:zW l tol=if (je l tol).2≠0 then([],(je l tol).2) else if 4096<jn (je l tol).1 then([],5) else((je l tol).1,0):=by unfold zW;rw[kH hv,kH ht]
 refine⟨Pl,plE,[],rfl,wb2 ?_⟩
 refine⟨Nat×LZ,λs=>⟨[(0,.sl sgE l),(1,i64 tol),(6,.own 0),(7,i64 (jn s.2:Int)),(8,i64 (s.1:Int))],[(0,.arr 193 plE 2 s.2)],1,47,0⟩,
  λs=>s.1<=l.length/\je (l.take s.1) tol=(s.2,0)/\(∀y,l[s.1]?=some y->y.v=1)/\s.2.length<=s.1/\∀q∈s.2,q.pts.length<=20000,λs=>l.length-s.1,(0,[]),?_,?_,?_⟩
 ·exact⟨Xh _,rfl,λy hy=>zim hv y hy,Xh _,λq hq=>by cases hq⟩
 ·exact zf [0]
 rintro⟨i,out⟩ ⟨h1,h2,h3,h4,h5⟩
 dsimp only at h1 h2 h3 h4 h5;have hc:=zou h5 out.length (Xk _);rw[X1]at hc;intro hl3;refine⟨λg:(i:Int)<l.length=>?_,λg:¬(i:Int)<l.length=>?_⟩
 ·obtain⟨x,hx⟩:∃x,l[i]?=some x:=⟨_,Xb oM⟩;have v1:=h3 x hx;have e:=vO (tol:=tol) hx;rw[h2,zgC,Xe v1]at e;have sp:=zkM (a:=i) ho (l.length-(i+1)) (i+1) [x.a] rfl oM oM e (by show 1<=_;omega);refine wg (zvz l i x tol hx oM) ?_;generalize zfc l tol (l.length-(i+1)) (i+1) [x.a]=R at*;obtain⟨p,j,er⟩:=R;refine⟨λk=>?_,λk=>?_⟩
  ·have k:¬er=0:=k
   obtain⟨_,sp⟩|⟨sp,_⟩:=sp
   ·refine jp ?_;dsimp only at sp;rw[eQ,sp,Xe k]
   exact absurd sp k
  have k:er=0:=Xa.1 k
  obtain⟨sp,_⟩|⟨_,s1,s2,s3,s4,s5⟩:=sp
  ·exact absurd k sp
  dsimp only at s1 s2 s3 s4 s5;intro hl6;have hl6:p.pts.length<=9223372036854775807:=hl6;refine Ar.fit (by show _<=(jn out:Int)+(p.pts.length:Int)/\(jn out:Int)+(p.pts.length:Int)<=_;omega)<|⟨Pl,plE,[p],rfl,wb0 ?_⟩;refine⟨[p],rfl,Ob.mk ⟨(by show _*(32:Int)<=_;simp only[Xn,Xr];omega),(by simp only[Xn,Xr];omega),dC,λ_ _=>rfl⟩ ?_⟩
  refine⟨(j,out++[p]),⟨s2,s4,s3,by simp only[Xq,Xn,Xr];omega,λq hq=>?_⟩,
   zS [3] ⟨rfl,rfl,rfl,iR (show(jn out:Int)+(p.pts.length:Int)=(jn (out++[p]):Int) by unfold jn;simp),rfl,tV⟩ ⟨rfl,tV⟩,oN⟩
  rcases Xs.1 hq with hq|hq
  ·exact h5 q hq
  rw[Xu.1 hq];omega
 rw[Xi oM]at h2;rw[eQ,h2,qH rfl];refine⟨λm:(4096:Int)<(jn out:Int)=>?_,λm:¬(4096:Int)<(jn out:Int)=>?_⟩
 ·exact jp (Xe (show 4096<jn out by omega))
 exact zyt (Xc (show¬4096<jn out by omega))
def zfJ:∀(l A:LU) (p:Pt),kw (A++[p]) l=A++qU (p::l)
 |[],A,p=>rfl
 |x::r,A,p=>by
  have e:kw (A++[p]) (x::r)=kw (yW (A++[p]) x) r:=rfl;rw[e];unfold yW;rw[Jz];have d:qU (p::x::r)=if p=x then qU (x::r) else p::qU (x::r):=rfl
  rw[d]
  by_cases c:p=x
  ·subst c;rw[Xe rfl,Xe rfl];exact zfJ r A p
  rw[Xc (λk=>c (Xm k)),Xc c,zfJ r (A++[p]) x,XZ];rfl
def zqA(l:LU):kw [] l=qU l:=by
 cases l with
 |nil=>rfl
 |cons p r=>exact zfJ r [] p
def dd(xs:LU)(i:Nat):LU:=kw [] (xs.take i)
variable{xs:LU}{x:Pt}
def zgN(h:xs[i]?=some x):dd xs (i+1)=yW (dd xs i) x:=by
 unfold dd;exact zhM h
def zDY(xs:LU)(i:Nat):(dd xs i).length<=i:=by
 unfold dd;have:=vt (xs.take i) [];rw[Xo]at this;simp at this;omega
def zsp{xs:LU}{i:Nat}(h:xs.length<=i):dd xs i=qU xs:=by
 unfold dd;rw[Xi h,zqA]
def zt4(h:xs[i]?=some z):(dd xs (i+1)).getLast?=some z:=by
 rw[zgN h];exact zqc _ _
def zDZ(h:xs[0]?=some x):dd xs 1=xs.take 1:=by
 rw[zgN h,Xl,h];rfl
def zow(hz:xs[i]?=some z)(hx:xs[i+1]?=some x)(e:z=x):dd xs (i+2)=dd xs (i+1):=by
 rw[zgN hx];unfold yW;rw[zt4 hz,e,Xe rfl]
def zkN(hz:xs[i]?=some z)(hx:xs[i+1]?=some x)(e:¬z=x):dd xs (i+2)=dd xs (i+1)++[x]:=by
 rw[zgN hx];unfold yW;rw[zt4 hz,Xc (λk=>e (Xm k))]
def zA0(h:xs[i]?=some x):xs.take (i+1)=xs.take i++[x]:=by
 rw[Xl,h];rfl
def zvA(xs:LU)(hx:xs.length<=4096):CG0 315 [.own 0] [(0,.arr 28 ptE 2 xs)] (.sl ptE (qU xs)) []:=by
 refine ziy 1 tok mix func315 rfl rfl rfl λhl1=>?_;refine⟨λg:(xs.length:Int)<2=>?_,λg:¬(xs.length:Int)<2=>?_⟩
 ·refine zZ ?_
  match xs,g with
  |[],_=>rfl
  |[p],_=>rfl
  |_::_::_,g=>exact absurd g (by simp only[Xn];omega)
 refine⟨Nat,λi=>⟨[(0,.own 0),(3,i64 ((i:Int)+1))],[(0,.arr 28 ptE 2 xs)],1,61,1⟩,λi=>i+1<=xs.length/\dd xs (i+1)=xs.take (i+1),λi=>xs.length-i,0,?_,?_,?_⟩
 ·exact⟨oM,zDZ (Xb oM)⟩
 ·exact zf [0]
 rintro i ⟨h1,h2⟩
 intro hl3;refine⟨λg4=>?_,λg4=>?_⟩;rotate_left
 ·have g4:¬(i:Int)+1<xs.length:=g4;refine zZ ?_;rw[←zsp (i:=i+1) oM,h2,Xi oM]
 have g4:(i:Int)+1<xs.length:=g4;refine wc<|Ob.mk ⟨oM,g4⟩<|Ob.mk ⟨oM,g4⟩ λx hx'=>?_
 have hx0:xs[i+1]?=some x:=by
  have h:xs[((i:Int)+1).toNat]?=some x:=hx'
  rwa [show((i:Int)+1).toNat=i+1 by omega]at h
 refine wa<|wb5<|wb5 λz hz'=>?_
 have hz0:xs[i]?=some z:=by
  have h:xs[((i:Int)+1-1).toNat]?=some z:=hz'
  rwa [show((i:Int)+1-1).toNat=i by omega]at h
 refine⟨λk=>?_,λk=>?_⟩;rotate_left
 ·have k:¬z=x:=λh=>k (qi.2 h.symm)
  refine wa<|⟨i+1,⟨oM,?_⟩,zS [0] ⟨rfl,iR oM,tV⟩ ⟨rfl,tV⟩,oN⟩;rw[zkN hz0 hx0 k,h2,zA0 hx0]
 have k:z=x:=(qi.1 k).symm;refine Sl.win (Ob.mk ⟨oM,oM,oM,oM⟩ ?_)
 refine⟨Nat×Nat×LU,λs=>⟨[(0,.own 0),(3,i64 (s.2.1:Int)),(4,.win 0 2 ((i:Int)+1) ((xs.length:Int)-((i:Int)+1))),(5,i64 ((s.1:Int)+1))],[(0,.arr 28 ptE 2 s.2.2)],1,61,1⟩,
  λs=>i+1+s.1<xs.length/\s.2.2.length=xs.length/\s.2.2.take s.2.1=dd xs (i+s.1+2)/\s.2.1=(dd xs (i+s.1+2)).length/\s.2.1<=i+1+s.1/\∀j,i+1+s.1<=j->s.2.2[j]?=xs[j]?,λs=>xs.length-s.1,(0,i+1,xs),?_,?_,?_⟩
 ·have e:=zow hz0 hx0 k;refine⟨oN,rfl,?_,?_,oN,λj _=>rfl⟩
  ·show xs.take (i+1)=dd xs (i+0+2);rw[show i+0+2=i+2 from rfl,e,h2]
  show i+1=(dd xs (i+0+2)).length;rw[show i+0+2=i+2 from rfl,e,h2,Xo];omega
 ·exact zS [0] ⟨rfl,iR (show((i+1:Nat):Int)=(i:Int)+1 by omega).symm,rfl,rfl,tV⟩ ⟨rfl,tV⟩
 rintro⟨m,q,A⟩ ⟨k1,k2,k3,k4,k5,k6⟩
 dsimp only at k1 k2 k3 k4 k5 k6;refine wb<|Br.mk (λg7=>?_) (λg7=>?_)
 ·have g7:(m:Int)+1<(xs.length:Int)-((i:Int)+1):=g7;refine wc<|Ob.mk ⟨by ((try dsimp only);omega),by ((try dsimp only);omega),g7⟩<|wb11 λy hy'=>?_
  have hy0:A[i+m+2]?=some y:=by
   have h:A[((i:Int)+1+((m:Int)+1)).toNat]?=some y:=hy'
   rwa [show((i:Int)+1+((m:Int)+1)).toNat=i+m+2 by omega]at h
  have hy1:xs[i+m+2]?=some y:=by rw[←k6 _ oM];exact hy0
  refine wa<|wb23<|wb11 λu hu'=>?_
  have hu0:A[i+m+1]?=some u:=by
   have h:A[((i:Int)+1+((m:Int)+1-1)).toNat]?=some u:=hu'
   rwa [show((i:Int)+1+((m:Int)+1-1)).toNat=i+m+1 by omega]at h
  have hu1:xs[i+m+1]?=some u:=by rw[←k6 _ oM];exact hu0
  refine⟨λd=>?_,λd=>?_⟩
  ·have d:¬u=y:=λh=>d (qi.2 h.symm)
   have e:=zkN hu1 hy1 d;refine Ob.mk ⟨by ((try dsimp only);omega),by ((try dsimp only);omega),g7⟩<|wb11 λy' hy''=>?_
   have ey:y'=y:=by
    have h:A[((i:Int)+1+((m:Int)+1)).toNat]?=some y':=hy'';rw[show((i:Int)+1+((m:Int)+1)).toNat=i+m+2 by omega,hy0]at h;exact(Xm h).symm
   rw[ey];refine wb11<|wb11 λt _=>?_;refine⟨y,rfl,?_⟩;refine Ar.fit (by (try dsimp only);omega)<|wa ?_;have hq:((q:Int)).toNat=q:=XT q
   refine⟨(m+1,q+1,A.set q y),⟨oN,by rw[XV];exact k2,?_,?_,oN,λj hj=>?_⟩,
    zS [0] ⟨rfl,iR (by (try dsimp only);omega),rfl,iR (by (try dsimp only);omega),tV⟩ ⟨aR (by rw[hq]),tV⟩,oN⟩
   ·show(A.set q y).take (q+1)=dd xs (i+m+1+2);rw[e,←k3];have hlt:q<(A.set q y).length:=by rw[XV];omega
    rw[Xl,Q3 (Xk q),List.getElem?_set_self oM];rfl
   ·show q+1=(dd xs (i+m+1+2)).length;rw[e,Xq,←k4];rfl
   show(A.set q y)[j]?=xs[j]?;have hj:i+1+(m+1)<=j:=hj;rw[List.getElem?_set_ne oM];exact k6 j oM
  have d:u=y:=(qi.1 (Xa.1 d)).symm;have e:=zow hu1 hy1 d;refine wa ?_
  refine⟨(m+1,q,A),⟨oN,k2,?_,?_,oN,λj hj=>k6 j (by dsimp only at hj;omega)⟩,
   zS [0] ⟨rfl,rfl,rfl,iR oM,tV⟩ ⟨rfl,tV⟩,oN⟩
  ·show A.take q=dd xs (i+m+1+2);rw[e];exact k3
  show q=(dd xs (i+m+1+2)).length;rw[e];exact k4
 have g7:¬(m:Int)+1<(xs.length:Int)-((i:Int)+1):=g7;refine Sl.win (Ob.mk ⟨by ((try dsimp only);omega),by ((try dsimp only);omega),by ((try dsimp only);omega),by ((try dsimp only);omega)⟩ ?_);refine⟨zp,rfl,wb23 ?_⟩;have hq:((q:Int)).toNat=q:=XT q
 have hl:(A.take (q:Int).toNat++(List.replicate ((A.length:Int)-(q:Int)).toNat zp++A.drop ((q:Int).toNat+((A.length:Int)-(q:Int)).toNat))).length=A.length:=by
  simp only[Xq,Xo,Ki,Kv];omega
 refine Sl.keep (Ob.mk ⟨rfl,by ((try dsimp only);omega),by ((try dsimp only);rw[hl];omega)⟩ ?_);refine zZ ?_;dsimp only;rw[←zsp (i:=i+m+2) oM,←k3,hq,KD (by rw[Xo];omega),Xi (by rw[Xo];omega)]
def zfK(h:p.cl=true):(zt p).pts=qf (qU p.pts):=by unfold zt;dsimp only;rw[Xe h]
def zkO(h:¬p.cl=true):(zt p).pts=qU p.pts:=by unfold zt;dsimp only;rw[Xc h]
def zhO(l:LU):(qU l).length<=l.length:=by
 rw[←zqA];have:=vt l []
 simpa using this
def zox(h:(zt p).pts=q):LE (.agg [.sl ptE q,pr (p.cl=true)]) (ws (zt p)):=by
 subst h;exact .refl
def zgO(p:Pl)(hp:p.pts.length<=4096):CX 251 [ws p] (ws (zt p)):=by
 refine zc func251<|zb.fresh _ _ (zn7 p.pts hp) rfl (λ_ _=>rfl) (.inr (λ_ _=>rfl))<|zb.give [2] 0 [.own 0] [(0,.arr 28 ptE 2 p.pts)] [] (.sl ptE (qU p.pts)) (zvA p.pts hp) LEs.refl rfl rfl rfl ⟨⟨_,rfl,rfl,tV⟩,tV⟩ rfl trivial ?_;have hd:=zhO p.pts
 refine⟨LU,λq=>⟨[(1,.loc 0 0),(2,.loc 1 0),(3,.sl ptE q)],[(0,.box 193 [.sl ptE p.pts,pr (p.cl=true)]),(1,.box 193 [nS,.val (.bool false)])],2,36,0⟩,
  λq=>qf q=qf (qU p.pts)/\jB q/\q.length<=4096/\(¬p.cl=true->q=qU p.pts),λq=>q.length,qU p.pts,?_,?_,?_⟩
 ·exact⟨rfl,uc _,oM,λ_=>rfl⟩
 ·exact zf [0,1]
 rintro q ⟨t1,t2,t3,t4⟩
 refine wc<|Br.mk (λc=>?_) (λc=>?_);rotate_left
 ·have c:¬p.cl=true:=c;exact zox (by rw[zkO c,t4 c])
 have c:p.cl=true:=c;have fin:qf q=q->LE (.agg [.sl ptE q,pr (p.cl=true)]) (ws (zt p)):=λh=>zox (by rw[zfK c,←t1,h])
 intro hl1;refine⟨λm=>?_,λm=>?_⟩;rotate_left
 ·have m:¬(1:Int)<q.length:=m;exact fin (zgM oM)
 have m:(1:Int)<q.length:=m;intro hl2;refine wa<|wb λz hz=>?_
 have hz:q[q.length-1]?=some z:=by
  have hz:q[((q.length:Int)-1).toNat]?=some z:=hz
  rwa [show((q.length:Int)-1).toNat=q.length-1 by omega]at hz
 refine wb λf(hf:q[0]?=some f)=>?_;refine⟨λk=>?_,λk=>?_⟩
 ·have k:z=f:=qi.1 k;have et:=zgL (show 1<q.length by omega) hz hf k;intro hl4;refine wa<|Ob.mk ⟨⟨dC,oM,oM,oM⟩,λ_ _=>rfl⟩<|⟨q.take (q.length-1),⟨?_,?_,?_,λh=>absurd c h⟩,zS [0,1] ⟨rfl,rfl,Xg (λq=>some (SV.sl ptE q)) (by rw[show((q.length:Int)-1-0).toNat=q.length-1 by omega];rfl),tV⟩ ⟨rfl,rfl,tV⟩,?_⟩
  ·rw[←et,zhN t2,t1]
  ·rw[←et];exact zbj t2
  ·rw[Xo];omega
  show(q.take (q.length-1)).length<q.length;rw[Xo];omega
 have k:¬z=f:=λh=>k (qi.2 h)
 exact fin (zi9 hz hf k)
def zja(p:Pl)(hp:p.pts.length<=4096):CX 231 [ws p] (ws (zt p)):=by
 refine uY 1 tok mix func231 rfl rfl rfl<|⟨Pt,ptE,[],rfl,wb2 ?_⟩
 refine⟨Nat,λi=>⟨[(1,.loc 0 0),(2,.loc 1 0),(3,.loc 2 0),(4,i64 i)],
   [(0,.box 193 [.sl ptE p.pts,pr (p.cl=true)]),(1,.box 193 [nS,.val (.bool false)]),(2,.box 193 [.own 3,pr (p.cl=true)]),(3,.arr 28 ptE 2 (dd p.pts i))],4,74,0⟩,
  λi=>i<=p.pts.length,λi=>p.pts.length-i,0,?_,?_,?_⟩
 ·exact Xh _
 ·exact zf [0,1,3,2]
 rintro i hi
 have dl:=zDY p.pts i;intro hl1;refine⟨λg:(i:Int)<p.pts.length=>?_,λg:¬(i:Int)<p.pts.length=>?_⟩
 ·obtain⟨x,hx⟩:∃x,p.pts[i]?=some x:=⟨_,Xb oM⟩;have same:∀{y:Pt},p.pts[(i:Int).toNat]?=some y->y=x:=λh=>Xm ((show p.pts[i]?=some _ from h).symm.trans hx)
  refine wd<|Br.mk (λz=>?_) (λz=>?_)
  ·have z:(i:Int)=0:=z;refine wh<|wd<|wb λy hy=>?_;rw[same hy];refine⟨Pt,ptE,[x],rfl,wb0 ?_⟩;refine⟨[x],rfl,wb3 ?_⟩;refine wh<|wa ?_;have i0:i=0:=oM;subst i0;refine⟨1,oM,zu [0,1,2,5] ⟨rfl,rfl,rfl,aR ?_,tV⟩,oN⟩;rw[zgN hx];rfl
  have z:¬(i:Int)=0:=z;obtain⟨n,rfl⟩:∃n,i=n+1:=⟨i-1,oM⟩;refine wb λy hy=>?_;rw[same hy];refine wa<|wb λu hu=>?_
  have hu:p.pts[n]?=some u:=by
   have h:p.pts[(((n+1:Nat):Int)-1).toNat]?=some u:=hu
   rwa [show(((n+1:Nat):Int)-1).toNat=n by omega]at h
  refine wh<|⟨λk=>?_,λk=>?_⟩
  ·have k:¬u=x:=λh=>k (qi.2 h.symm)
   refine wd<|wb λy hy=>?_;rw[same hy];refine⟨Pt,ptE,[x],rfl,wb0 ?_⟩;refine⟨[x],rfl,wb3 ?_⟩;refine wh<|wa<|⟨n+2,oM,zS [0,1,2,5] ⟨rfl,rfl,rfl,iR oM,tV⟩ ⟨rfl,rfl,rfl,aR ?_,tV⟩,oN⟩;rw[zkN hu hx k]
  have k:u=x:=(qi.1 (Xa.1 k)).symm;refine wa<|⟨n+2,oM,zS [0,1,2,3] ⟨rfl,rfl,rfl,iR oM,tV⟩ ⟨rfl,rfl,rfl,aR ?_,tV⟩,oN⟩;rw[zow hu hx k]
 have hd:=zhO p.pts
 refine⟨LU,λq=>⟨[(1,.loc 0 0),(2,.loc 1 0),(3,.loc 2 0)],
   [(0,.box 193 [.sl ptE p.pts,pr (p.cl=true)]),(1,.box 193 [nS,.val (.bool false)]),(2,.box 193 [.own 3,pr (p.cl=true)]),(3,.arr 28 ptE 2 q)],4,74,0⟩,
  λq=>qf q=qf (qU p.pts)/\jB q/\q.length<=4096/\(¬p.cl=true->q=qU p.pts),λq=>q.length,qU p.pts,?_,?_,?_⟩
 ·exact⟨rfl,uc _,oM,λ_=>rfl⟩
 ·exact zu [0,1,2,3] ⟨rfl,rfl,rfl,aR (zsp oM),tV⟩
 rintro q ⟨t1,t2,t3,t4⟩
 refine wd<|Br.mk (λc=>?_) (λc=>?_);rotate_left
 ·have c:¬p.cl=true:=c;exact wh<|zox (by rw[zkO c,t4 c])
 have c:p.cl=true:=c;have fin:qf q=q->LE (.agg [.sl ptE q,pr (p.cl=true)]) (ws (zt p)):=λh=>zox (by rw[zfK c,←t1,h])
 intro hl1;refine⟨λm=>?_,λm=>?_⟩;rotate_left
 ·have m:¬(1:Int)<q.length:=m;exact wh<|fin (zgM oM)
 have m:(1:Int)<q.length:=m;intro hl2;refine wa<|wb<|wb λz hz=>?_
 have hz:q[q.length-1]?=some z:=by
  have hz:q[((q.length:Int)-1).toNat]?=some z:=hz
  rwa [show((q.length:Int)-1).toNat=q.length-1 by omega]at hz
 refine wb<|wb λf(hf:q[0]?=some f)=>?_;refine wh<|⟨λk=>?_,λk=>?_⟩
 ·have k:z=f:=qi.1 k;have et:=zgL (show 1<q.length by omega) hz hf k;intro hl4;refine wa<|Sl.keep (Ob.mk ⟨rfl,oM,oM⟩ ?_);refine⟨q.take (q.length-1),⟨?_,?_,?_,λh=>absurd c h⟩,zu [0,1,2,4] ⟨rfl,rfl,rfl,aR (by rw[show((q.length:Int)-1).toNat=q.length-1 by omega]),tV⟩,?_⟩
  ·rw[←et,zhN t2,t1]
  ·rw[←et];exact zbj t2
  ·rw[Xo];omega
  show(q.take (q.length-1)).length<q.length;rw[Xo];omega
 have k:¬z=f:=λh=>k (qi.2 h)
 exact fin (zi9 hz hf k)
end Go.Gs
