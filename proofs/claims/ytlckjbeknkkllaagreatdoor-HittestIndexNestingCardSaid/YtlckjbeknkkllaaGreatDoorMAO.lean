/- Paths cut to polylines, the program's. -/
import Derived.Test.YtlckjbeknkkllaaGreatDoorMAN
set_option maxRecDepth 100000
set_option maxHeartbeats 8000000
set_option linter.all false
namespace Go.Gs
open Proofs.Tryz
open Go.Proofs
variable{cl:LY}{b:SV}
def znI{k:Nat}{y:LQ}{n:Int}(hn:n=(cl.length:Int))(h:(jd cl k b)[n.toNat]?=some y):y=[.own k,b]:=by
 subst hn;exact zrV h sI
def zf4{k:Nat}{w:LQ}{n:Int}(hn:n=(cl.length:Int)):(jd cl k b).set n.toNat w=cl.map plE++[w]:=by
 subst hn;exact znG sI
def zdi{k:Nat}{w y:LQ}{n:Int}(hn:n=(cl.length:Int))(h:((jd cl k b).set n.toNat w)[n.toNat]?=some y):y=w:=by
 rw[zf4 hn]at h;subst hn;exact zrV h sI
def zvG{k:Nat}{w w':LQ}{n:Int}(hn:n=(cl.length:Int)):((jd cl k b).set n.toNat w).set n.toNat w'=cl.map plE++[w']:=by
 rw[zf4 hn];subst hn;exact znG sI
def zpK{cl:LY}{p:Pl}{a:Nat}(T:LM):
  ∀(i j:Nat) (x':LQ) (s':SV),((cl++[p]).map plE++T)[i]?=some x'->x'[j]?=some s'->∃(x:LQ) (s:SV),(jd cl a (pr (p.cl=true))++T)[i]?=some x/\x[j]?=some s/\(s'=s∨(s=.own a/\s'=.sl ptE p.pts)):=by
 intro i j x' s' hx hs;unfold jd;rw[XG]at hx;generalize cl.map plE=L at*
 rcases Qs i L.length with h|h|h
 ·rw[XS,XH h]at hx;exact⟨x',s',by rw[XS,XH h];exact hx,hs,.inl rfl⟩
 ·subst h;rw[XS,XB (Xi _)]at hx;simp at hx;subst hx;refine⟨[.own a,pr (p.cl=true)],?_⟩
  match j,hs with
  |0,hs=>simp[plE]at hs;subst hs;exact⟨.own a,sI,rfl,.inr ⟨rfl,rfl⟩⟩
  |1,hs=>simp[plE]at hs;subst hs;exact⟨pr (p.cl=true),sI,rfl,.inl rfl⟩
  |j+2,hs=>simp[plE]at hs
 rw[XB (by simp;omega)]at hx;refine⟨x',s',?_,hs,.inl rfl⟩;rw[XB (by simp;omega)];rw[←hx];congr 1;simp
def zBu(p:Pt)(s:Sg)(tol:Int):(jK p s tol).1.length<=64:=by
 unfold jK
 split
 ·unfold zda;split
  ·exact Xg _
  rename_i h;have ok:=(zaf (show(jA _ tol _).2=0 from Xc.1 h)).1;have ok:1<=(yU p s.a s.b tol).1/\(yU p s.a s.b tol).1<=64:=ok;dsimp only;rw[zdh];omega
 split
 ·unfold zdb;split
  ·exact Xg _
  rename_i h;have ok:=(zaf (show(jA _ tol _).2=0 from Xc.1 h)).1;have ok:1<=(yV p s.a s.b s.c tol).1/\(yV p s.a s.b s.c tol).1<=64:=ok;dsimp only;rw[zdh];omega
 show 1<=64;decide
variable{l:LR}{z:Pt}
def zyJ(h:l[l.length-1]?=some z):zhG l=z:=by
 unfold zhG;rw[J4,Ql,h];rfl
variable{i:Nat}
def zl2{l:LY}{x:Pl}(h:l[i]?=some x):yo (l.take (i+1))=yo (l.take i)+x.pts.length:=by
 unfold yo;rw[Xm,h];simp
def ztG{l:LY}{B:Nat}(h:∀q∈l,q.pts.length<=B):∀i,i<=l.length->yo (l.take i)<=B*i
 |0,_=>Xg _
 |i+1,hi=>by
  have hx:l[i]?=some l[i]:=Xa oM;rw[zl2 hx];have:=ztG h i oM;have:=h _ (X5 (show i<l.length by omega));rw[YL];omega
def zvH(c:LY×Int):SV:=.tup [.sl plE c.1,i64 c.2]
variable{c:LY×Int}
def zEJ{a:LY}{b:Int}(h:c=(a,b)):LE (.tup [.sl plE a,i64 b]) (zvH c):=by subst h;exact .refl
def yC{b:Int}(h:c=([],b)):LE (.tup [nS,i64 b]) (zvH c):=by subst h;exact zW zw .refl
variable{q:LR}{f:Pt}
def zpL(h1:1<q.length)(hz:q[q.length-1]?=some z)(hf:q[0]?=some f)(e:z=f):qi q=q.take (q.length-1):=by
 unfold qi;rw[Ql,hz,Yh,hf,e,Xe ⟨h1,rfl⟩,List.dropLast_eq_take]
def ztH(hz:q[q.length-1]?=some z)(hf:q[0]?=some f)(e:¬z=f):qi q=q:=by
 unfold qi;rw[Ql,hz,Yh,hf,Xb (λk=>e (Xl k.2))]
def zpM(h:¬1<q.length):qi q=q:=by
 unfold qi;rw[Xb (λk=>h k.1)]
def zyK(q:LR):(qi q).length<=q.length:=by
 unfold qi;split
 ·rw[QY];omega
 exact Xi _
variable{p:Pl}
def zyL{tol:Int}{s:Sg}(h1:¬s.v=1):jq tol (cl++[p],0) s=if (zbv p s tol).2≠0 then([],(zbv p s tol).2) else(cl++[(zbv p s tol).1],0):=by
 rw[zfU,Xb h1];have e:(cl++[p]).getLastD ⟨[],false⟩=p:=by simp
 rw[e,JE]
def zBv{s:Sg}(h:zb3 s):zm s.a/\zm s.b/\zm s.c:=⟨h.1.1,h.2.1.1,h.2.2.1⟩
def zyM(l:LW)(tol:Int):CX 188 [.sl sgE l,i64 tol] (zvH (kv l tol)):=by
 refine zd func188<|wg (zif l)<|⟨λa0=>yC (by unfold kv;rw[Xe a0]),λa0=>?_⟩;have hv:=Xc.1 a0;have hlen:=zva hv;have ho:=(vf.1 hv).2;have bad:¬zev tol->kv l tol=([],2):=λh=>by unfold kv;rw[kD hv,Xe h]
 refine⟨λa1=>yC (bad (λh=>by have a1:tol<1:=a1;unfold zev at h;omega)),λa1=>?_⟩;refine⟨λa2=>yC (bad (λh=>by have a2:256<tol:=a2;unfold zev at h;omega)),λa2=>?_⟩;have ht:zev tol:=⟨by have a1:¬tol<1:=a1;omega,by have a2:¬256<tol:=a2;omega⟩;have eQ:kv l tol=if (jm l tol).2≠0 then([],(jm l tol).2) else if 4096<yo (jm l tol).1 then([],5) else((jm l tol).1,0):=by unfold kv;rw[kD hv,kD ht]
 intro hl3
 refine⟨Nat×Option (LY×Pl),λq=>match q with
   |(i,none)=>⟨[(1,i64 tol),(6,.val (.slice none 0 0)),(27,.sl sgE l),(28,i64 l.length),(29,i64 i)],[],0,128,0⟩
   |(i,some (cl,p))=>⟨[(1,i64 tol),(6,.own 0),(27,.sl sgE l),(28,i64 l.length),(29,i64 i)],[(0,.garr 204 2 (jd cl 1 (pr (p.cl=true)))),(1,.arr 28 ptE 2 p.pts)],2,128,0⟩,
  λq=>match q with
   |(i,none)=>i=0
   |(i,some (cl,p))=>0<i/\i<=l.length/\jm (l.take i) tol=(cl++[p],0)/\cl.length<i/\p.pts.length<=1+64*i/\∀q∈cl,q.pts.length<=20000,λq=>l.length-q.1,(0,none),rfl,?_,?_⟩
 ·exact zA []
 rintro⟨i,_|⟨cl,p⟩⟩ hI
 ·have hI:i=0:=hI;subst hI;refine⟨λg:(0:Int)<l.length=>?_,λg:¬(0:Int)<l.length=>?_⟩
  ·refine Ob.mk ⟨dC,g⟩ λx(hx:l[0]?=some x)=>?_;have hv1:x.v=1:=zpi hv x hx;refine⟨λ_=>?_,λh=>absurd hv1 h⟩;refine⟨Pt,ptE,[x.a],rfl,wb0 ?_⟩;refine⟨[[.own 1,.val (.bool false)]],rfl,wb7 ?_⟩;refine Ob.mk ⟨by show((1:Nat):Int)*32<=_;decide,by show 1<=_;decide,dC⟩<|Ar.fit dC ?_;have e:=zb9 (tol:=tol) hx
   refine⟨(1,some ([],⟨[x.a],false⟩)),⟨dC,oM,?_,dC,by show 1<=_;decide,λq hq=>by cases hq⟩,
    (zbZ 3 rfl (ys:=jd [] 1 (pr ((⟨[x.a],false⟩:Pl).cl=true))) (.cons (.C (.cons (zc (show¬(false=true) by decide)) .nil)) .nil)).trans (zt [3,1] ⟨⟨_,rfl,vv rfl⟩,rfl,tV⟩),by show l.length-1<l.length-0;omega⟩
   rw[e];show jq tol ([],0) x=_;rw[zfU,Xe hv1]
  have hl0:l=[]:=Xo oM;refine⟨Unit,λ_=>⟨[(6,nS),(13,i64 0),(114,i64 0),(115,i64 0)],[],0,128,0⟩,λ_=>True,λ_=>0,(),tV,zA [],?_⟩
  rintro⟨⟩ _
  refine⟨λg=>absurd g dC,λ_=>?_⟩;refine⟨λg=>absurd g dC,λ_=>?_⟩;refine yC ?_;rw[eQ,hl0];rfl
 obtain⟨k0,k1,k2,k3,k4,k5⟩:0<i/\i<=l.length/\jm (l.take i) tol=(cl++[p],0)/\cl.length<i/\p.pts.length<=1+64*i/\∀q∈cl,q.pts.length<=20000:=hI;have inv:=zjI (tol:=tol) (lo:=⟨-1048576,-1048576⟩) (hi:=⟨1048576,1048576⟩) ho (λp hp=>zjK hv p hp) i k1 (by rw[k2]);rw[k2]at inv;obtain⟨pne,_,pok⟩:=inv.2 p sI;have hp1:0<p.pts.length:=Kl λh=>pne (Xo h)
 refine⟨λg:(i:Int)<l.length=>?_,λg:¬(i:Int)<l.length=>?_⟩
 ·refine Ob.mk ⟨oM,g⟩ λx(hx:l[i]?=some x)=>?_;have e:=zb9 (tol:=tol) hx;rw[k2]at e;have hf:=zBv (zfW ho x (Xf hx));refine⟨λv1:x.v=1=>?_,λv1:¬x.v=1=>?_⟩
  ·refine⟨Pt,ptE,[x.a],rfl,wb0 ?_⟩;refine⟨[[.own 3,.val (.bool false)]],rfl,wb7 ?_⟩;refine Ob.mk ⟨by show _*(32:Int)<=_;rw[vE];simp only[Xq,Xt];omega,by rw[vE];simp only[Xq,Xt];omega,dC⟩<|wa ?_
   refine⟨(i+1,some (cl++[p],⟨[x.a],false⟩)),⟨oM,oM,?_,?_,?_,?_⟩,
    ((zbZ 5 rfl (ys:=jd cl 1 (pr (p.cl=true))++[[.own 3,pr ((⟨[x.a],false⟩:Pl).cl=true)]]) (Rows.app .refl (.cons (.C (.cons (zc (show¬(false=true) by decide)) .nil)) .nil))).trans
     (zbX (sz0:=2) (T0:=204) 1 5 (enc:=ptE) (ys:=p.pts) rfl rfl (xs':=jd (cl++[p]) 3 (pr ((⟨[x.a],false⟩:Pl).cl=true))) (by simp[jd]) (λz hz=>?_) (zpK _))).trans
     (zt [5,3] ⟨⟨_,rfl,vv rfl⟩,rfl,tV⟩),by show l.length-(i+1)<l.length-i;omega⟩
   ·rw[e,zfU,Xe v1]
   ·simp only[Xp,Xq,Xt];omega
   ·show 1<=_;omega
   ·intro q hq
    rcases Xr.1 hq with hq|hq
    ·exact k5 q hq
    rw[Xu.1 hq];omega
   rcases Xr.1 hz with hz|hz
   ·obtain⟨w,_,rfl⟩:=XL.1 hz;rfl
   rw[Xu.1 hz];rfl
  rw[zyL v1]at e;intro hl6;refine wa ?_;have hrl:=vE cl 1 (pr (p.cl=true));have hN:((jd cl 1 (pr (p.cl=true))).length:Int)-1=cl.length:=by rw[hrl];omega
  have hrow:0<=((jd cl 1 (pr (p.cl=true))).length:Int)-1/\((jd cl 1 (pr (p.cl=true))).length:Int)-1<(jd cl 1 (pr (p.cl=true))).length:=oM;refine Ob.mk hrow<|Br.mk (λv5=>?_) (λv5=>?_)
  ·have v5:¬x.v=5:=v5;refine wd<|Ob.mk hrow λy hy=>?_;obtain rfl:=znI hN hy;refine Ob.mk hrow λy hy=>?_;obtain rfl:=znI hN hy;intro hl8;refine wa<|wb<|wb λz hz=>?_
   have hz:p.pts[p.pts.length-1]?=some z:=by
    have hz:p.pts[((p.pts.length:Int)-1).toNat]?=some z:=hz
    rwa [show((p.pts.length:Int)-1).toNat=p.pts.length-1 by omega]at hz
   have hlz:=zyJ hz
   have eg:zbv p x tol=if (jK z x tol).2≠0 then(p,(jK z x tol).2) else(⟨qj p.pts (jK z x tol).1,p.cl⟩,0):=by
    unfold zbv;rw[Xb v5,hlz]
   refine wg (p_seg z x tol (pok z (Xf hz)) hf)<|wh ?_;have sl:=zBu z x tol;refine⟨λk:¬(jK z x tol).2=0=>?_,λk=>?_⟩
   ·refine yC ?_;rw[Xe k]at eg;rw[eg,Xe k]at e;have:=zvr hx (by rw[e];exact k);rw[e]at this;rw[eQ,this,Xe k]
   have k:(jK z x tol).2=0:=Xc.1 k;rw[qV k]at eg;rw[eg,qV rfl]at e
   refine zb.give [0,1] 1 [.eloc 0 2 (cl.length:Int) 0,.sl ptE (jK z x tol).1] [(0,.garr 204 2 (jd cl 1 (pr (p.cl=true)))),(1,.arr 28 ptE 2 p.pts)]
    [(0,.garr 204 2 (jd cl 2 (pr (p.cl=true)))),(2,.arr 28 ptE 2 (qj p.pts (jK z x tol).1))] (.tup []) (zEI cl p.pts (jK z x tol).1 (p.cl=true) oM sl oM)
    (.cons (zat (Xj (λn=>SV.eloc 0 2 n 0) hN)) (.C .nil)) rfl rfl rfl ⟨⟨_,rfl,Xj (λq=>some (Mem.garr 204 2 q)) (zpJ [0,1] _ cl 1 _ _).symm,zyD rfl cl _ _⟩,⟨_,rfl,rfl,tV⟩,tV⟩ rfl ⟨⟨rfl,zyE rfl cl _ _⟩,⟨rfl,tV⟩,tV⟩ ?_
   refine wa ?_
   refine⟨(i+1,some (cl,⟨qj p.pts (jK z x tol).1,p.cl⟩)),⟨oM,oM,e,oM,?_,k5⟩,
    zt [0,3] ⟨⟨_,Xj (λq=>some (Mem.garr 204 2 q)) (zpJ [0,1] 3 cl 2 _ _),vv rfl⟩,rfl,tV⟩,by show l.length-(i+1)<l.length-i;omega⟩
   have:=zf3 (jK z x tol).1 p.pts;show(qj p.pts (jK z x tol).1).length<=_;omega
  have v5:x.v=5:=Xc.1 v5;have eg:zbv p x tol=(⟨qi p.pts,true⟩,0):=by unfold zbv;rw[Xe v5]
  rw[eg,qV rfl]at e;refine Ob.mk hrow λy hy=>?_;obtain rfl:=znI hN hy;have hrow2:∀w:LQ,0<=((jd cl 1 (pr (p.cl=true))).length:Int)-1/\((jd cl 1 (pr (p.cl=true))).length:Int)-1<((jd cl 1 (pr (p.cl=true))).set (((jd cl 1 (pr (p.cl=true))).length:Int)-1).toNat w).length:=λw=>by rw[XP];omega
  refine Ob.mk (hrow2 _) λy hy=>?_;obtain rfl:=zdi hN hy;intro hl8
  have fin:∀{σ:St} (q:LR),qi p.pts=q->Sub σ ⟨[(1,i64 tol),(6,.own 0),(27,.sl sgE l),(28,i64 l.length),(29,i64 ((i+1:Nat):Int))],[(0,.garr 204 2 (jd cl 1 (pr ((⟨qi p.pts,true⟩:Pl).cl=true)))),(1,.arr 28 ptE 2 q)],2,128,0⟩->
    ∃x',(match x' with
     |(i,none)=>i=0
     |(i,some (cl,p))=>0<i/\i<=l.length/\jm (l.take i) tol=(cl++[p],0)/\cl.length<i/\p.pts.length<=1+64*i/\∀q∈cl,q.pts.length<=20000:Prop)/\
    Sub σ (match x' with
     |(i,none)=>⟨[(1,i64 tol),(6,.val (.slice none 0 0)),(27,.sl sgE l),(28,i64 l.length),(29,i64 i)],[],0,128,0⟩
     |(i,some (cl,p))=>⟨[(1,i64 tol),(6,.own 0),(27,.sl sgE l),(28,i64 l.length),(29,i64 i)],[(0,.garr 204 2 (jd cl 1 (pr (p.cl=true)))),(1,.arr 28 ptE 2 p.pts)],2,128,0⟩)/\l.length-x'.1<l.length-(i,some (cl,p)).1:=λq hq hs=>by
   refine⟨(i+1,some (cl,⟨qi p.pts,true⟩)),⟨oM,oM,e,oM,?_,k5⟩,?_,by show l.length-(i+1)<l.length-i;omega⟩
   ·have:=zyK p.pts;show(qi p.pts).length<=_;omega
   subst hq;exact hs
  refine wd<|Br.mk (λm=>?_) (λm=>?_)
  ·have m:(1:Int)<p.pts.length:=m;refine Ob.mk (hrow2 _) λy hy=>?_;obtain rfl:=zdi hN hy;refine wa<|wb<|wb λz hz=>?_
   have hz:p.pts[p.pts.length-1]?=some z:=by
    have hz:p.pts[((p.pts.length:Int)-1).toNat]?=some z:=hz
    rwa [show((p.pts.length:Int)-1).toNat=p.pts.length-1 by omega]at hz
   refine Ob.mk (hrow2 _) λy hy=>?_;obtain rfl:=zdi hN hy;refine wb<|wb λf(hf:p.pts[0]?=some f)=>?_;refine wh<|⟨λk=>?_,λk=>?_⟩
   ·have k:z=f:=qU.1 k;refine Ob.mk (hrow2 _) λy hy=>?_;obtain rfl:=zdi hN hy;refine wa<|Sl.keep (Ob.mk ⟨rfl,oM,oM⟩ ?_);refine Ob.mk (hrow2 _) λy hy=>?_;obtain rfl:=zdi hN hy;refine wa<|fin (p.pts.take ((p.pts.length:Int)-1).toNat) ?_ ?_;rotate_left
    ·exact(zbZ 0 (by exact Xj (λq=>some (Mem.garr 204 2 q)) (zvG hN)) (ys:=jd cl 3 (pr ((⟨qi p.pts,true⟩:Pl).cl=true))) (Rows.app .refl (.cons (.C (.cons (zI rfl) .nil)) .nil))).trans
      (zt [0,3] ⟨⟨_,rfl,vv rfl⟩,rfl,tV⟩)
    rw[show((p.pts.length:Int)-1).toNat=p.pts.length-1 by omega];exact zpL oM hz hf k
   have k:¬z=f:=λh=>k (qU.2 h)
   refine wa<|fin p.pts (ztH hz hf k) ?_
   exact((zbZ 0 (by exact Xj (λq=>some (Mem.garr 204 2 q)) (zf4 hN)) (ys:=jd cl 1 (pr ((⟨qi p.pts,true⟩:Pl).cl=true))) (Rows.app .refl (.cons (.C (.cons (zI rfl) .nil)) .nil))).trans
    (zt [0,1] ⟨⟨_,rfl,vv rfl⟩,rfl,tV⟩))
  have m:¬(1:Int)<p.pts.length:=m;refine wh<|wa<|fin p.pts (zpM oM) ?_
  exact((zbZ 0 (by exact Xj (λq=>some (Mem.garr 204 2 q)) (zf4 hN)) (ys:=jd cl 1 (pr ((⟨qi p.pts,true⟩:Pl).cl=true))) (Rows.app .refl (.cons (.C (.cons (zI rfl) .nil)) .nil))).trans
   (zt [0,1] ⟨⟨_,rfl,vv rfl⟩,rfl,tV⟩))
 have hi:l.take i=l:=Xk oM;rw[hi]at k2
 have hout:∀q∈cl++[p],q.pts.length<=20000:=λq hq=>by
  rcases Xr.1 hq with hq|hq
  ·exact k5 q hq
  rw[Xu.1 hq];omega
 have hlo:(cl++[p]).length=cl.length+1:=by simp
 rw[eQ,k2,qV rfl];intro hl12;refine⟨Nat,λk=>⟨[(6,.own 0),(13,i64 (yo ((cl++[p]).take k):Int)),(113,.own 0),(114,i64 ((cl++[p]).length:Int)),(115,i64 k)],[(0,.arr 204 plE 2 (cl++[p]))],1,128,0⟩,λk=>k<=(cl++[p]).length,λk=>(cl++[p]).length-k,0,?_,?_,?_⟩
 ·exact Xg _
 ·exact((zbX (sz0:=2) (T0:=204) 1 0 (enc:=ptE) (ys:=p.pts) rfl rfl (xs':=(cl++[p]).map plE) (by rw[vE,Xz,hlo]) (λz hz=>by obtain⟨w,_,rfl⟩:=XL.1 hz;rfl)
   (λi j x' s' hx hs=>by have:=zpK (cl:=cl) (p:=p) (a:=1) [] i j x' s' (by rwa [XM]) hs;rwa [XM]at this)).trans (zcW 0 plE (cl++[p]) rfl (λ_ _=>rfl))).trans
   (ku [0] ⟨rfl,rfl,rfl,iR (by rw[vE,hlo]),rfl,tV⟩ ⟨rfl,tV⟩)
 rintro k hk
 have hc:=ztG hout k hk;refine⟨λg:(k:Int)<(cl++[p]).length=>?_,λg:¬(k:Int)<(cl++[p]).length=>?_⟩
 ·refine wb<|wb λq(hq:(cl++[p])[k]?=some q)=>?_;intro hl14;have:=hout q (Xf hq);(iterate 2 refine wa ?_);refine⟨k+1,oM,ku [0] ⟨rfl,iR (by rw[zl2 hq];omega),rfl,rfl,rfl,tV⟩ ⟨rfl,tV⟩,oN⟩
 have hk:(cl++[p]).take k=cl++[p]:=Xk oM;refine⟨λm:(4096:Int)<(yo ((cl++[p]).take k):Int)=>?_,λm:¬(4096:Int)<(yo ((cl++[p]).take k):Int)=>?_⟩
 ·rw[hk]at m;exact yC (Xe (show 4096<yo (cl++[p]) by omega))
 rw[hk]at m;exact zEJ (Xb (show¬4096<yo (cl++[p]) by omega))
def zvI(h:yd l):qi (qi l)=qi l:=by
 have:=zvp h;generalize qi l=m at*;unfold qi;rw[Xb (λk=>this k.1 k.2)]
def ze2:∀(l A:LR) (p:Pt),qj (A++[p]) l=A++jp (p::l)
 |[],A,p=>rfl
 |x::r,A,p=>by
  have e:qj (A++[p]) (x::r)=qj (ye (A++[p]) x) r:=rfl;rw[e];unfold ye;rw[JG];have d:jp (p::x::r)=if p=x then jp (x::r) else p::jp (x::r):=rfl
  rw[d]
  by_cases c:p=x
  ·subst c;rw[Xe rfl,Xe rfl];exact ze2 r A p
  rw[Xb (λk=>c (Xl k)),Xb c,ze2 r (A++[p]) x,XS];rfl
def zpN(l:LR):qj [] l=jp l:=by
 cases l with
 |nil=>rfl
 |cons p r=>exact ze2 r [] p
def dd(xs:LR)(i:Nat):LR:=qj [] (xs.take i)
variable{xs:LR}{x:Pt}
def zii(h:xs[i]?=some x):dd xs (i+1)=ye (dd xs i) x:=by
 unfold dd;exact zl1 h
def zyN{xs:LR}{i:Nat}(h:xs.length<=i):dd xs i=jp xs:=by
 unfold dd;rw[Xk h,zpN]
def ztI(h:xs[i]?=some z):(dd xs (i+1)).getLast?=some z:=by
 rw[zii h];exact zyc _ _
def zEK(h:xs[0]?=some x):dd xs 1=xs.take 1:=by
 rw[zii h,Xm,h];rfl
def ztJ(hz:xs[i]?=some z)(hx:xs[i+1]?=some x)(e:z=x):dd xs (i+2)=dd xs (i+1):=by
 rw[zii hx];unfold ye;rw[ztI hz,e,Xe rfl]
def zpO(hz:xs[i]?=some z)(hx:xs[i+1]?=some x)(e:¬z=x):dd xs (i+2)=dd xs (i+1)++[x]:=by
 rw[zii hx];unfold ye;rw[ztI hz,Xb (λk=>e (Xl k))]
def zBw(h:xs[i]?=some x):xs.take (i+1)=xs.take i++[x]:=by
 rw[Xm,h];rfl
def zvJ(xs:LR)(hx:xs.length<=4096):CG0 331 [.own 0] [(0,.arr 28 ptE 2 xs)] (.sl ptE (jp xs)) []:=by
 refine zhK 1 tok mix func331 rfl rfl rfl λhl1=>?_;refine⟨λg:(xs.length:Int)<2=>?_,λg:¬(xs.length:Int)<2=>?_⟩
 ·refine kM ?_
  match xs,g with
  |[],_=>rfl
  |[p],_=>rfl
  |_::_::_,g=>exact absurd g (by simp only[Xq];omega)
 refine⟨Nat,λi=>⟨[(0,.own 0),(3,i64 ((i:Int)+1))],[(0,.arr 28 ptE 2 xs)],1,61,1⟩,λi=>i+1<=xs.length/\dd xs (i+1)=xs.take (i+1),λi=>xs.length-i,0,?_,?_,?_⟩
 ·exact⟨oM,zEK (Xa oM)⟩
 ·exact zi [0]
 rintro i ⟨h1,h2⟩
 intro hl3;refine⟨λg4=>?_,λg4=>?_⟩;rotate_left
 ·have g4:¬(i:Int)+1<xs.length:=g4;refine kM ?_;rw[←zyN (i:=i+1) oM,h2,Xk oM]
 have g4:(i:Int)+1<xs.length:=g4;refine wc<|Ob.mk ⟨oM,g4⟩<|Ob.mk ⟨oM,g4⟩ λx hx'=>?_
 have hx0:xs[i+1]?=some x:=by
  have h:xs[((i:Int)+1).toNat]?=some x:=hx'
  rwa [show((i:Int)+1).toNat=i+1 by omega]at h
 refine wa<|wb6<|wb6 λz hz'=>?_
 have hz0:xs[i]?=some z:=by
  have h:xs[((i:Int)+1-1).toNat]?=some z:=hz'
  rwa [show((i:Int)+1-1).toNat=i by omega]at h
 refine⟨λk=>?_,λk=>?_⟩;rotate_left
 ·have k:¬z=x:=λh=>k (qU.2 h.symm)
  refine wa<|⟨i+1,⟨oM,?_⟩,ku [0] ⟨rfl,iR oM,tV⟩ ⟨rfl,tV⟩,oN⟩;rw[zpO hz0 hx0 k,h2,zBw hx0]
 have k:z=x:=(qU.1 k).symm;refine Sl.win (Ob.mk ⟨oM,oM,oM,oM⟩ ?_)
 refine⟨Nat×Nat×LR,λs=>⟨[(0,.own 0),(3,i64 (s.2.1:Int)),(4,.win 0 2 ((i:Int)+1) ((xs.length:Int)-((i:Int)+1))),(5,i64 ((s.1:Int)+1))],[(0,.arr 28 ptE 2 s.2.2)],1,61,1⟩,
  λs=>i+1+s.1<xs.length/\s.2.2.length=xs.length/\s.2.2.take s.2.1=dd xs (i+s.1+2)/\s.2.1=(dd xs (i+s.1+2)).length/\s.2.1<=i+1+s.1/\∀j,i+1+s.1<=j->s.2.2[j]?=xs[j]?,λs=>xs.length-s.1,(0,i+1,xs),?_,?_,?_⟩
 ·have e:=ztJ hz0 hx0 k;refine⟨oN,rfl,?_,?_,oN,λj _=>rfl⟩
  ·show xs.take (i+1)=dd xs (i+0+2);rw[show i+0+2=i+2 from rfl,e,h2]
  show i+1=(dd xs (i+0+2)).length;rw[show i+0+2=i+2 from rfl,e,h2,Xv];omega
 ·exact ku [0] ⟨rfl,iR (show((i+1:Nat):Int)=(i:Int)+1 by omega).symm,rfl,rfl,tV⟩ ⟨rfl,tV⟩
 rintro⟨m,q,A⟩ ⟨k1,k2,k3,k4,k5,k6⟩
 dsimp only at k1 k2 k3 k4 k5 k6;refine wb<|Br.mk (λg7=>?_) (λg7=>?_)
 ·have g7:(m:Int)+1<(xs.length:Int)-((i:Int)+1):=g7;refine wc<|Ob.mk ⟨by ((try dsimp only);omega),by ((try dsimp only);omega),g7⟩<|wb9 λy hy'=>?_
  have hy0:A[i+m+2]?=some y:=by
   have h:A[((i:Int)+1+((m:Int)+1)).toNat]?=some y:=hy'
   rwa [show((i:Int)+1+((m:Int)+1)).toNat=i+m+2 by omega]at h
  have hy1:xs[i+m+2]?=some y:=by rw[←k6 _ oM];exact hy0
  refine wa<|wb20<|wb9 λu hu'=>?_
  have hu0:A[i+m+1]?=some u:=by
   have h:A[((i:Int)+1+((m:Int)+1-1)).toNat]?=some u:=hu'
   rwa [show((i:Int)+1+((m:Int)+1-1)).toNat=i+m+1 by omega]at h
  have hu1:xs[i+m+1]?=some u:=by rw[←k6 _ oM];exact hu0
  refine⟨λd=>?_,λd=>?_⟩
  ·have d:¬u=y:=λh=>d (qU.2 h.symm)
   have e:=zpO hu1 hy1 d;refine Ob.mk ⟨by ((try dsimp only);omega),by ((try dsimp only);omega),g7⟩<|wb9 λy' hy''=>?_
   have ey:y'=y:=by
    have h:A[((i:Int)+1+((m:Int)+1)).toNat]?=some y':=hy'';rw[show((i:Int)+1+((m:Int)+1)).toNat=i+m+2 by omega,hy0]at h;exact(Xl h).symm
   rw[ey];refine wb9<|wb9 λt _=>?_;refine⟨y,rfl,?_⟩;refine Ar.fit (by (try dsimp only);omega)<|wa ?_;have hq:((q:Int)).toNat=q:=XX q
   refine⟨(m+1,q+1,A.set q y),⟨oN,by rw[XP];exact k2,?_,?_,oN,λj hj=>?_⟩,
    ku [0] ⟨rfl,iR (by (try dsimp only);omega),rfl,iR (by (try dsimp only);omega),tV⟩ ⟨aR (by rw[hq]),tV⟩,oN⟩
   ·show(A.set q y).take (q+1)=dd xs (i+m+1+2);rw[e,←k3];have hlt:q<(A.set q y).length:=by rw[XP];omega
    rw[Xm,Q7 (Xi q),List.getElem?_set_self oM];rfl
   ·show q+1=(dd xs (i+m+1+2)).length;rw[e,Xp,←k4];rfl
   show(A.set q y)[j]?=xs[j]?;have hj:i+1+(m+1)<=j:=hj;rw[List.getElem?_set_ne oM];exact k6 j oM
  have d:u=y:=(qU.1 (Xc.1 d)).symm;have e:=ztJ hu1 hy1 d;refine wa ?_
  refine⟨(m+1,q,A),⟨oN,k2,?_,?_,oN,λj hj=>k6 j (by dsimp only at hj;omega)⟩,
   ku [0] ⟨rfl,rfl,rfl,iR oM,tV⟩ ⟨rfl,tV⟩,oN⟩
  ·show A.take q=dd xs (i+m+1+2);rw[e];exact k3
  show q=(dd xs (i+m+1+2)).length;rw[e];exact k4
 have g7:¬(m:Int)+1<(xs.length:Int)-((i:Int)+1):=g7;refine Sl.win (Ob.mk ⟨by ((try dsimp only);omega),by ((try dsimp only);omega),by ((try dsimp only);omega),by ((try dsimp only);omega)⟩ ?_);refine⟨zp,rfl,wb20 ?_⟩;have hq:((q:Int)).toNat=q:=XX q
 have hl:(A.take (q:Int).toNat++(List.replicate ((A.length:Int)-(q:Int)).toNat zp++A.drop ((q:Int).toNat+((A.length:Int)-(q:Int)).toNat))).length=A.length:=by
  simp only[Xp,Xv,Kj,KJ];omega
 refine Sl.keep (Ob.mk ⟨rfl,by ((try dsimp only);omega),by ((try dsimp only);rw[hl];omega)⟩ ?_);refine kM ?_;dsimp only;rw[←zyN (i:=i+m+2) oM,←k3,hq,Kz (by rw[Xv];omega),Xk (by rw[Xv];omega)]
def zrW(h:p.cl=true):(zL p).pts=qi (jp p.pts):=by unfold zL;dsimp only;rw[Xe h]
def zrX(h:¬p.cl=true):(zL p).pts=jp p.pts:=by unfold zL;dsimp only;rw[Xb h]
def zl3(l:LR):(jp l).length<=l.length:=by
 rw[←zpN];have:=zf3 l []
 simpa using this
def zyO(h:(zL p).pts=q):LE (.agg [.sl ptE q,pr (p.cl=true)]) (.agg (plE (zL p))):=by
 subst h;exact .refl
def zf5(p:Pl)(hp:p.pts.length<=4096):CX 266 [.agg (plE p)] (.agg (plE (zL p))):=by
 refine zd func266<|zb.fresh _ _ (zny p.pts hp) rfl (λ_ _=>rfl) (.inr (λ_ _=>rfl))<|zb.give [2] 0 [.own 0] [(0,.arr 28 ptE 2 p.pts)] [] (.sl ptE (jp p.pts)) (zvJ p.pts hp) LEs.refl rfl rfl rfl ⟨⟨_,rfl,rfl,tV⟩,tV⟩ rfl trivial ?_;have hd:=zl3 p.pts
 refine⟨LR,λq=>⟨[(1,.loc 0 0),(2,.loc 1 0),(3,.sl ptE q)],[(0,.box 204 [.sl ptE p.pts,pr (p.cl=true)]),(1,.box 204 [nS,.val (.bool false)])],2,36,0⟩,
  λq=>qi q=qi (jp p.pts)/\yd q/\q.length<=4096/\(¬p.cl=true->q=jp p.pts),λq=>q.length,jp p.pts,?_,?_,?_⟩
 ·exact⟨rfl,zc8 _,oM,λ_=>rfl⟩
 ·exact zi [0,1]
 rintro q ⟨t1,t2,t3,t4⟩
 refine wc<|Br.mk (λc=>?_) (λc=>?_);rotate_left
 ·have c:¬p.cl=true:=c;exact zyO (by rw[zrX c,t4 c])
 have c:p.cl=true:=c;have fin:qi q=q->LE (.agg [.sl ptE q,pr (p.cl=true)]) (.agg (plE (zL p))):=λh=>zyO (by rw[zrW c,←t1,h])
 intro hl1;refine⟨λm=>?_,λm=>?_⟩;rotate_left
 ·have m:¬(1:Int)<q.length:=m;exact fin (zpM oM)
 have m:(1:Int)<q.length:=m;intro hl2;refine wa<|wb λz hz=>?_
 have hz:q[q.length-1]?=some z:=by
  have hz:q[((q.length:Int)-1).toNat]?=some z:=hz
  rwa [show((q.length:Int)-1).toNat=q.length-1 by omega]at hz
 refine wb λf(hf:q[0]?=some f)=>?_;refine⟨λk=>?_,λk=>?_⟩
 ·have k:z=f:=qU.1 k;have et:=zpL (show 1<q.length by omega) hz hf k;intro hl4;refine wa<|Ob.mk ⟨⟨dC,oM,oM,oM⟩,λ_ _=>rfl⟩<|⟨q.take (q.length-1),⟨?_,?_,?_,λh=>absurd c h⟩,ku [0,1] ⟨rfl,rfl,Xj (λq=>some (SV.sl ptE q)) (by rw[show((q.length:Int)-1-0).toNat=q.length-1 by omega];rfl),tV⟩ ⟨rfl,rfl,tV⟩,?_⟩
  ·rw[←et,zvI t2,t1]
  ·rw[←et];exact zjH t2
  ·rw[Xv];omega
  show(q.take (q.length-1)).length<q.length;rw[Xv];omega
 have k:¬z=f:=λh=>k (qU.2 h)
 exact fin (ztH hz hf k)
def zDm(a b:Pt)(p:Pen):CX 396 [ws p,wk a,wk b] (.sl ptE (zbg a b p)):=by
 refine zd func396<|Br.mk (λh=>?_) (λh=>?_)
 ·have h:p.c=5:=h;exact wg (p_cap a b p.w)<|kM (by unfold zbg;rw[Xe h])
 have h:¬p.c=5:=h;refine⟨λk:p.c=3=>?_,λk:¬p.c=3=>?_⟩
 ·exact wg (zrJ b p.w)<|kM (by unfold zbg;rw[Xb h,Xe k])
 have e:zbg a b p=[]:=by unfold zbg;rw[Xb h,Xb k]
 rw[e];exact zw
def zyP(a:Pt)(p:Pen):CX 392 [wk a,ws p] (.sl ptE (zeV a p)):=by
 refine zd func392<|Br.mk (λh=>?_) (λh=>?_)
 ·have h:p.c=5:=h;exact wg (zEw a p.w)<|kM (by unfold zeV;rw[Xe h])
 have h:¬p.c=5:=h;refine⟨λk:p.c=3=>?_,λk:¬p.c=3=>?_⟩
 ·exact wg (zrJ a p.w)<|kM (by unfold zeV;rw[Xb h,Xe k])
 have e:zeV a p=[]:=by unfold zeV;rw[Xb h,Xb k]
 rw[e];exact zw
def ul{j:Nat}(h:l[j]?=some x):x=nth l j:=by
 unfold nth;rw[Xn,h];rfl
def zrY(l:LR)(i:Int)(j:Nat)(hl:0<l.length/\l.length<=4096)(hi: -1<=i/\i<=l.length)(hj:((i+l.length)%l.length).toNat=j):
  CX 393 [i64 i,.ptr [.sl ptE l],.ptr [i64 l.length]] (wk (nth l j)):=by
 refine zd func393 ?_;have m1:=K2 (i+l.length) (show(l.length:Int)≠0 by omega);have m2:=KY (i+l.length) (show 0<(l.length:Int) by omega);refine wc<|wa<|Dv.pos ⟨oM,oM⟩<|Ob.mk ⟨m1,m2⟩ λx hx=>?_;have hx:l[j]?=some x:=by rw[←hj];exact hx
 rw[ul hx];exact .refl
def uV(out rs:LN):LN:=out++rs.filter λr=>decide (0<r.length)
def zpP(out:LN)(r:LR):uV out [r]=out++qH r:=by
 unfold uV qH
 cases r with
 |nil=>rfl
 |cons a b=>rfl
def zyQ(out:LN)(r s:LR):uV out [r,s]=out++qH r++qH s:=by
 unfold uV qH
 cases r <;> cases s <;> simp
def zgZ{out rs:LN}{i:Nat}{x:LR}(h:rs[i]?=some x):uV out (rs.take (i+1))=if 0<x.length then uV out (rs.take i)++[x] else uV out (rs.take i):=by
 unfold uV;rw[Xm,h]
 by_cases c:0<x.length
 ·rw[Xe c];simp[c]
 rw[Xb c];simp[c]
def zjR(out rs:LN):(uV out rs).length<=out.length+rs.length:=by
 unfold uV;rw[Xp];have:=K6 (λr:List Pt=>decide (0<r.length)) rs;omega
def zyR{out rs:LN}(h:∀r∈rs,0<r.length):uV out rs=out++rs:=by
 unfold uV;congr 1;exact List.filter_eq_self.2 λr hr=>decide_eq_true (h r hr)
variable{r:LR}
def zbx(h:q∈qH r):0<q.length:=by
 unfold qH at h
 split at h
 ·cases h
 rename_i k;rw[Xu.1 h];exact Kl λe=>k (Xo e)
def ztK{a v b:Pt}{p:Pen}:∀r∈uY a v b p,0<r.length:=by
 intro r hr;unfold uY at hr
 split at hr
 ·cases hr
 split at hr
 ·exact zbx hr
 split at hr
 ·cases hr
 exact zbx hr
def zEL(rs:LN)(hr:rs.length<=4):CG0 391 [.own 1,.loc 0 0] [(0,.box 104 [nS]),(1,.arr 155 zE 1 rs)] (.tup []) [(0,.box 104 [.own 2]),(2,.arr 155 zE 1 (uV [] rs))]:=by
 refine u6 tok mix func391 rfl rfl rfl λhl1=>?_;refine⟨Nat,λi=>⟨[(1,.loc 0 0),(5,.own 1),(6,i64 rs.length),(7,i64 i)],[(0,.box 104 [.own 2]),(2,.arr 155 zE 1 (uV [] (rs.take i))),(1,.arr 155 zE 1 rs)],3,19,2⟩,λi=>i<=rs.length,λi=>rs.length-i,0,?_,?_,?_⟩
 ·exact Xg _
 ·exact zA [(0,some 0),(1,some 1),(2,none)]
 rintro i hi
 have pl:=zjR ([]:LN) (rs.take i);rw[Xv]at pl;refine⟨λg:(i:Int)<rs.length=>?_,λg:¬(i:Int)<rs.length=>?_⟩
 ·refine wb<|wb λx(hx:rs[i]?=some x)=>?_;have e:=zgZ (out:=([]:LN)) hx;intro hl3;refine⟨λk:(0:Int)<x.length=>?_,λk:¬(0:Int)<x.length=>?_⟩
  ·rw[Xe oM]at e;refine⟨LR,zE,[x],rfl,wb0 ?_⟩;refine⟨[x],rfl,Ob.mk ⟨(by show _*(24:Int)<=_;simp only[Xq,Xt]at pl ⊢;omega),(by simp only[Xq,Xt]at pl ⊢;omega),dC,λ_ _=>rfl⟩ ?_⟩;exact wa<|⟨i+1,oM,zt [0,1,4] ⟨rfl,aR e.symm,rfl,tV⟩,oN⟩
  rw[Xb oM]at e;exact wa<|⟨i+1,oM,zt [0,1,2] ⟨rfl,aR e.symm,rfl,tV⟩,oN⟩
 exact⟨⟨[],[(0,.box 104 [.own 2]),(2,.arr 155 zE 1 (uV [] rs))],3,19,2⟩,zt [0,1,2] ⟨rfl,Xj (λq=>some (Mem.arr 155 zE 1 (uV [] q))) (Xk oM),tV⟩,rfl,.refl⟩
def zyS(out rs:LN)(ho:out.length<=100000)(hr:rs.length<=4):CG0 391 [.own 2,.loc 0 0] [(0,.box 104 [.own 1]),(1,.arr 155 zE 1 out),(2,.arr 155 zE 1 rs)] (.tup []) [(0,.box 104 [.own 3]),(3,.arr 155 zE 1 (uV out rs))]:=by
 refine u6 tok mix func391 rfl rfl rfl λhl1=>?_;refine⟨Nat,λi=>⟨[(1,.loc 0 0),(5,.own 2),(6,i64 rs.length),(7,i64 i)],[(0,.box 104 [.own 3]),(3,.arr 155 zE 1 (uV out (rs.take i))),(2,.arr 155 zE 1 rs)],4,19,3⟩,λi=>i<=rs.length,λi=>rs.length-i,0,?_,?_,?_⟩
 ·exact Xg _
 ·exact zt [0,1,2,1] ⟨rfl,aR (XM out).symm,rfl,tV⟩
 rintro i hi
 have pl:=zjR out (rs.take i);rw[Xv]at pl;refine⟨λg:(i:Int)<rs.length=>?_,λg:¬(i:Int)<rs.length=>?_⟩
 ·refine wb<|wb λx(hx:rs[i]?=some x)=>?_;have e:=zgZ (out:=out) hx;intro hl3;refine⟨λk:(0:Int)<x.length=>?_,λk:¬(0:Int)<x.length=>?_⟩
  ·rw[Xe oM]at e;refine⟨LR,zE,[x],rfl,wb0 ?_⟩;refine⟨[x],rfl,Ob.mk ⟨(by show _*(24:Int)<=_;simp only[Xq,Xt]at pl ⊢;omega),(by simp only[Xq,Xt]at pl ⊢;omega),dC,λ_ _=>rfl⟩ ?_⟩;exact wa<|⟨i+1,oM,zt [0,1,2,5] ⟨rfl,aR e.symm,rfl,tV⟩,oN⟩
  rw[Xb oM]at e;exact wa<|⟨i+1,oM,zt [0,1,2,3] ⟨rfl,aR e.symm,rfl,tV⟩,oN⟩
 exact⟨⟨[],[(0,.box 104 [.own 3]),(3,.arr 155 zE 1 (uV out rs))],4,19,3⟩,zt [0,1,2,3] ⟨rfl,Xj (λq=>some (Mem.arr 155 zE 1 (uV out q))) (Xk oM),tV⟩,rfl,.refl⟩
def zEM(out rs:LN)(ho:out.length<=100000)(hr:rs.length<=4):CG0 391 [.sl zE rs,.loc 0 0] [(0,.box 104 [.own 1]),(1,.arr 155 zE 1 out)] (.tup []) [(0,.box 104 [.own 2]),(2,.arr 155 zE 1 (uV out rs))]:=by
 refine u6 tok mix func391 rfl rfl rfl λhl1=>?_;refine⟨Nat,λi=>⟨[(1,.loc 0 0),(5,.sl zE rs),(6,i64 rs.length),(7,i64 i)],[(0,.box 104 [.own 2]),(2,.arr 155 zE 1 (uV out (rs.take i)))],3,19,2⟩,λi=>i<=rs.length,λi=>rs.length-i,0,?_,?_,?_⟩
 ·exact Xg _
 ·exact zt [0,1,1] ⟨rfl,aR (XM out).symm,tV⟩
 rintro i hi
 have pl:=zjR out (rs.take i);rw[Xv]at pl;refine⟨λg:(i:Int)<rs.length=>?_,λg:¬(i:Int)<rs.length=>?_⟩
 ·refine wb λx(hx:rs[i]?=some x)=>?_;have e:=zgZ (out:=out) hx;intro hl3;refine⟨λk:(0:Int)<x.length=>?_,λk:¬(0:Int)<x.length=>?_⟩
  ·rw[Xe oM]at e;refine⟨LR,zE,[x],rfl,wb0 ?_⟩;refine⟨[x],rfl,Ob.mk ⟨(by show _*(24:Int)<=_;simp only[Xq,Xt]at pl ⊢;omega),(by simp only[Xq,Xt]at pl ⊢;omega),dC,λ_ _=>rfl⟩ ?_⟩;exact wa<|⟨i+1,oM,zt [0,1,4] ⟨rfl,aR e.symm,tV⟩,oN⟩
  rw[Xb oM]at e;exact wa<|⟨i+1,oM,zt [0,1,2] ⟨rfl,aR e.symm,tV⟩,oN⟩
 exact⟨⟨[],[(0,.box 104 [.own 2]),(2,.arr 155 zE 1 (uV out rs))],3,19,2⟩,zt [0,1,2] ⟨rfl,Xj (λq=>some (Mem.arr 155 zE 1 (uV out q))) (Xk oM),tV⟩,rfl,.refl⟩
def zBx(p:Pt):CX 337 [wk p] (pr (¬zm p)):=by
 exact zd func337<|wg (kC p)<|zr Qd
def zyT(F:FuncId)(hF:∀p,CX F [wk p] (pr (¬zm p)))(xs:LR):CX 254 [.sl ptE xs,.fn F []] (i64 (zhF xs)):=by
 refine zd func254 λhl0=>?_;refine⟨Int,λi=>⟨[(8,i64 i),(7,i64 xs.length),(0,.sl ptE xs),(1,.fn F [])],[],0,19,0⟩,λi=>0<=i/\i<=xs.length/\∀(j:Nat) q,(j:Int)<i->xs[j]?=some q->zm q,λi=>((xs.length:Int)-i).toNat,0,?_,?_,?_⟩
 ·exact⟨oM,oM,λj q hj=>by omega⟩
 ·exact zA []
 rintro i ⟨h1,h2,h3⟩
 refine⟨λh4=>?_,λh4=>?_⟩
 ·refine wb λx hx=>wg (hF x)<|⟨λh5=>?_,λh5=>?_⟩
  ·refine zh ?_;rw[zpj (i:=i.toNat) (λj q hj=>h3 j q oM) hx h5];omega
  refine wa<|⟨i+1,⟨oM,oM,λj q hj hq=>?_⟩,zA [],oN⟩
  by_cases e:j=i.toNat
  ·subst e;rw[hx]at hq;cases hq;exact Xc.1 h5
  exact h3 j q oM hq
 refine zh (zeW λp hp=>?_).symm;obtain⟨j,hj,he⟩:=Kn hp;exact h3 j p oM (by rw[←he];exact Xa hj)
def zpQ(F:FuncId)(hF:∀p,CX F [wk p] (pr (¬zm p)))(xs:LR):CX 179 [.sl ptE xs,.fn F []] (pr (¬∀p∈xs,zm p)):=by
 exact zd func179<|wg (zyT F hF xs)<|zr zfR
def zaH(rs:LN):Prop:=∀r∈rs,∀p∈r,zm p
instance (rs:LN):Decidable (zaH rs):=inferInstanceAs (Decidable (∀_∈_,_))
def ptsE(rs:LN):SV:=.tup [i64 (if zaH rs then(qx rs:Int) else 0),pr (zaH rs)]
def zjS(rs:LN)(hs:(qx rs:Int)<=4611686018427387904):CX 270 [.sl zE rs] (ptsE rs):=by
 refine zd func270 λhl1=>?_;refine⟨Nat,λi=>⟨[(4,i64 (qx (rs.take i):Int)),(7,.sl zE rs),(8,i64 rs.length),(9,i64 i)],[],0,21,0⟩,λi=>i<=rs.length/\zaH (rs.take i),λi=>rs.length-i,0,?_,?_,?_⟩
 ·exact⟨Xg _,λr hr=>by cases hr⟩
 ·exact zA []
 rintro i ⟨h1,h2⟩
 refine⟨λg:(i:Int)<rs.length=>?_,λg:¬(i:Int)<rs.length=>?_⟩
 ·refine wb λx(hx:rs[i]?=some x)=>?_;refine wg (zpQ 337 zBx x)<|⟨λk=>?_,λk=>?_⟩
  ·have k:¬zaH rs:=λh=>k (h x (Xf hx))
   refine zW (zh (by rw[Xb k])) (zc k)
  have k:∀p∈x,zm p:=Xc.1 k;intro hl4;have c1:=zae hx;have c2:=zb7 rs (i+1);(iterate 2 refine wa ?_);refine⟨i+1,⟨oM,zjC hx h2 k⟩,qN [] ⟨iR oM,rfl,rfl,rfl,tV⟩ trivial,oN⟩
 rw[Xk oM]at h2;have e:qx (rs.take i)=qx rs:=by rw[Xk oM]
 exact zW (zh (by rw[Xe h2,e])) (zI h2)
def vF(r:LR):(qH r).length<=1:=by unfold qH;split <;> simp
def znJ(l:LR)(w:Int)(n:Nat):LN:=(List.range n).flatMap λi=>qH (uy (nth l i) (nth l (i+1)) w)
def zl4(l:LR)(w:Int)(n:Nat):znJ l w (n+1)=znJ l w n++qH (uy (nth l n) (nth l (n+1)) w):=by
 unfold znJ;rw[KI,Qw,Jn]
def zyU(l:LR)(w:Int)(n:Nat):(znJ l w n).length<=n:=by
 induction n with
 |zero=>exact Xi 0
 |succ n ih=>
  rw[zl4,Xp];have:=vF (uy (nth l n) (nth l (n+1)) w);omega
def zby(p:Pl)(pen:Pen):jG p pen=znJ p.pts pen.w (p.pts.length-1)++
  (if p.cl=true/\1<p.pts.length then qH (uy (nth p.pts (p.pts.length-1)) (nth p.pts 0) pen.w) else[]):=rfl
def zjT(p:Pl)(pen:Pen):(jG p pen).length<=p.pts.length+1:=by
 rw[zby,Xp];have h1:=zyU p.pts pen.w (p.pts.length-1);have h2:=vF (uy (nth p.pts (p.pts.length-1)) (nth p.pts 0) pen.w)
 split
 ·omega
 rw[Xt];omega
def zhL(p:Pl)(pen:Pen)(i:Nat):LN:=if¬p.cl=true/\(i=0∨i=p.pts.length-1) then[]
  else uY (nth p.pts ((i+p.pts.length-1)%p.pts.length)) (nth p.pts i) (nth p.pts ((i+1)%p.pts.length)) pen
def uZ(p:Pl)(pen:Pen)(n:Nat):LN:=(List.range n).flatMap (zhL p pen)
def zjU(p:Pl)(pen:Pen)(n:Nat):uZ p pen (n+1)=uZ p pen n++zhL p pen n:=by
 unfold uZ;rw[KI,Qw,Jn]
def zdj(p:Pl)(pen:Pen):zjB p pen=if p.pts.length<=1 then[] else uZ p pen p.pts.length:=rfl
def zl5(a v b:Pt)(p:Pen):(uY a v b p).length<=1:=by
 unfold uY
 split
 ·decide
 split
 ·exact vF _
 split
 ·decide
 exact vF _
def zvK(p:Pl)(pen:Pen)(i:Nat):(zhL p pen i).length<=1:=by
 unfold zhL
 split
 ·decide
 exact zl5 ..
def zl6(p:Pl)(pen:Pen)(n:Nat):(uZ p pen n).length<=n:=by
 induction n with
 |zero=>exact Xi 0
 |succ n ih=>
  rw[zjU,Xp];have:=zvK p pen n;omega
def zvL(p:Pl)(pen:Pen):(zjB p pen).length<=p.pts.length:=by
 rw[zdj]
 split
 ·exact Xg _
 exact zl6 ..
variable{pen:Pen}
def zyV(h:p.pts.length=1):zc9 p pen=qH (zeV (nth p.pts 0) pen):=by unfold zc9;rw[Xe h]
def zyW(h:1<p.pts.length)(k:¬p.cl=true):zc9 p pen=qH (zbg (nth p.pts 1) (nth p.pts 0) pen)++qH (zbg (nth p.pts (p.pts.length-2)) (nth p.pts (p.pts.length-1)) pen):=by
 unfold zc9;rw[Xb (show¬p.pts.length=1 by omega),Xe ⟨h,k⟩]
def ztL(h:¬p.pts.length=1)(k:¬(1<p.pts.length/\¬p.cl=true)):zc9 p pen=[]:=by
 unfold zc9;rw[Xb h,Xb k]
def zyX(p:Pl)(pen:Pen):(zc9 p pen).length<=2:=by
 unfold zc9
 split
 ·have:=vF (zeV (nth p.pts 0) pen);omega
 split
 ·have h1:=vF (zbg (nth p.pts 1) (nth p.pts 0) pen);have h2:=vF (zbg (nth p.pts (p.pts.length-2)) (nth p.pts (p.pts.length-1)) pen);rw[Xp];omega
 decide
def zrZ(p:Pl)(pen:Pen):(qq p pen).length<=2*p.pts.length+3:=by
 unfold qq;rw[Xp,Xp];have h1:=zjT p pen;have h2:=zvL p pen;have h3:=zyX p pen;omega
def zl7(h:¬1<p.pts.length):jG p pen=znJ p.pts pen.w (p.pts.length-1):=by
 rw[zby,Xb (λk=>h k.2),XM]
def zpR(h:p.pts.length<=1):zjB p pen=[]:=by rw[zdj,Xe h]
def zr0(h:p.pts.length=0):qq p pen=[]:=by
 unfold qq;rw[zl7 oM,zpR oM,ztL oM oM,h];rfl
def zr1(h:p.pts.length=1):qq p pen=qH (zeV (nth p.pts 0) pen):=by
 unfold qq;rw[zl7 oM,zpR oM,zyV h,h];rfl
def zjV(p:Pl)(pen:Pen)(n:Nat):LN:=(List.range n).flatMap λi=>qH (uy (nth p.pts i) (nth p.pts ((i+1)%p.pts.length)) pen.w)
def zd1(p:Pl)(pen:Pen)(n:Nat):zjV p pen (n+1)=zjV p pen n++qH (uy (nth p.pts n) (nth p.pts ((n+1)%p.pts.length)) pen.w):=by
 unfold zjV;rw[KI,Qw,Jn]
def znK(p:Pl)(pen:Pen):∀n,n<p.pts.length->zjV p pen n=znJ p.pts pen.w n
 |0,_=>rfl
 |n+1,h=>by rw[zd1,zl4,znK p pen n oM,Xw h]
def zyY(p:Pl)(pen:Pen)(n:Nat):(zjV p pen n).length<=n:=by
 induction n with
 |zero=>exact Xi 0
 |succ n ih=>
  rw[zd1,Xp];have:=vF (uy (nth p.pts n) (nth p.pts ((n+1)%p.pts.length)) pen.w);omega
def zdk(p:Pl):Nat:=if p.cl=true then p.pts.length else p.pts.length-1
def zpS(h:p.cl=true):zdk p=p.pts.length:=Xe h
def ztM(h:¬p.cl=true):zdk p=p.pts.length-1:=Xb h
def zBy(p:Pl):zdk p<=p.pts.length:=by unfold zdk;split <;> omega
def zyZ(h:1<p.pts.length):zjV p pen (zdk p)=jG p pen:=by
 rw[zby]
 by_cases c:p.cl=true
 ·rw[zpS c,Xe ⟨c,h⟩];obtain⟨m,hm⟩:∃m,p.pts.length=m+1:=⟨p.pts.length-1,oM⟩;rw[hm,zd1,znK p pen m oM,hm,JU];rfl
 rw[ztM c,Xb (λh=>c h.1),znK p pen _ oM,XM]
def zBz(p:Pl)(pen:Pen)(hp:p.pts.length<=4096):CX 336 [.agg (plE p),ws pen] (.sl zE (qq p pen)):=by
 refine zd func336 λhl1=>?_;refine⟨λn0:(p.pts.length:Int)=0=>?_,λn0:¬(p.pts.length:Int)=0=>?_⟩
 ·rw[zr0 oM];exact zw
 refine⟨λn1:(p.pts.length:Int)=1=>?_,λn1:¬(p.pts.length:Int)=1=>?_⟩
 ·refine wd<|wb λx hx=>?_;have hx:=ul (show p.pts[0]?=some x from hx);refine wg (zyP x pen)<|⟨LR,zE,[zeV x pen],rfl,wb0 ?_⟩
  refine zb.give [2,5] 1 [.own 1,.loc 0 0] [(0,.box 104 [nS]),(1,.arr 155 zE 1 [zeV x pen])] [(0,.box 104 [.own 2]),(2,.arr 155 zE 1 (uV [] [zeV x pen]))] (.tup []) (zEL [zeV x pen] sI)
   LEs.refl rfl rfl rfl ⟨⟨_,rfl,rfl,rfl⟩,⟨_,rfl,rfl,tV⟩,tV⟩ rfl ⟨⟨rfl,rfl⟩,⟨rfl,tV⟩,tV⟩ ?_
  refine wh<|kM ?_;rw[zr1 oM,←hx,zpP];rfl
 refine wa ?_;have h2:1<p.pts.length:=oM;refine⟨λc=>?C,λc=>?D⟩
 case' C=>
  have c:p.cl=true:=c;have hL:=zpS c
 case' D=>
  have c:¬p.cl=true:=c;have hL:=ztM c
 all_goals
  have hle:=zBy p;refine⟨Nat,λi=>⟨[(2,.loc 0 0),(3,.loc 1 0),(5,.loc 2 0),(6,.fn 391 [.loc 2 0]),(7,.loc 3 0),(8,.loc 4 0),(9,.fn 393 [.loc 3 0,.loc 4 0]),(39,i64 (zdk p:Int)),(40,i64 i)],[(0,.box 204 [.sl ptE p.pts,pr (p.cl=true)]),(1,.box 63 (yK pen)),(2,.box 104 [.own 5]),(3,.box 155 [.sl ptE p.pts]),(4,.box 3 [i64 p.pts.length]),(5,.arr 155 zE 1 (zjV p pen i))],6,121,0⟩,λi=>i<=zdk p,λi=>zdk p-i,0,?_,?_,?_⟩
  ·exact Xg _
  ·exact qN [(0,some 0),(1,some 1),(2,some 2),(3,some 3),(4,some 4),(5,none)] ⟨rfl,rfl,rfl,rfl,rfl,rfl,rfl,iR oM,rfl,tV⟩ ⟨rfl,rfl,rfl,rfl,rfl,rfl,tV⟩
  rintro i hi
  have bl:=zyY p pen i;refine⟨λg:(i:Int)<zdk p=>?_,λg:¬(i:Int)<zdk p=>?_⟩
  ·refine wd<|wb λx hx=>?_;have hx:=ul (show p.pts[i]?=some x from hx);refine wa<|wg (zrY p.pts ((i:Int)+1) ((i+1)%p.pts.length) ⟨oM,hp⟩ ⟨oM,oM⟩ (by rw[show(i:Int)+1+p.pts.length=((i+1:Nat):Int)+(p.pts.length:Int) by omega,Int.add_emod_right];omega))<|wg (zEv x (nth p.pts ((i+1)%p.pts.length)) pen.w)<|⟨LR,zE,[uy x (nth p.pts ((i+1)%p.pts.length)) pen.w],rfl,wb0 ?_⟩
   refine zb.give [2,5,6] 1 [.own 2,.loc 0 0] [(0,.box 104 [.own 1]),(1,.arr 155 zE 1 (zjV p pen i)),(2,.arr 155 zE 1 [uy x (nth p.pts ((i+1)%p.pts.length)) pen.w])] [(0,.box 104 [.own 3]),(3,.arr 155 zE 1 (uV (zjV p pen i) [uy x (nth p.pts ((i+1)%p.pts.length)) pen.w]))] (.tup []) (zyS (zjV p pen i) [uy x (nth p.pts ((i+1)%p.pts.length)) pen.w] oM sI)
      LEs.refl rfl rfl rfl ⟨⟨_,rfl,rfl,rfl⟩,⟨_,rfl,rfl,tV⟩,⟨_,rfl,rfl,tV⟩,tV⟩ rfl ⟨⟨rfl,rfl⟩,⟨rfl,tV⟩,tV⟩ ?_
   refine wh<|wa ?_;refine⟨i+1,oM,zt [0,1,2,3,4,7] ⟨rfl,rfl,rfl,rfl,rfl,aR (by rw[zd1,zpP,hx]),tV⟩,oN⟩
  have eb:zjV p pen i=jG p pen:=by rw[←zyZ h2,show i=zdk p by omega]
  refine⟨Nat,λi=>⟨[(2,.loc 0 0),(3,.loc 1 0),(5,.loc 2 0),(6,.fn 391 [.loc 2 0]),(7,.loc 3 0),(8,.loc 4 0),(9,.fn 393 [.loc 3 0,.loc 4 0]),(58,i64 p.pts.length),(59,i64 i)],[(0,.box 204 [.sl ptE p.pts,pr (p.cl=true)]),(1,.box 63 (yK pen)),(2,.box 104 [.own 5]),(3,.box 155 [.sl ptE p.pts]),(4,.box 3 [i64 p.pts.length]),(5,.arr 155 zE 1 (jG p pen++uZ p pen i))],6,121,0⟩,λi=>i<=p.pts.length,λi=>p.pts.length-i,0,?_,?_,?_⟩
  ·exact Xg _
  ·exact zt [0,1,2,3,4,5] ⟨rfl,rfl,rfl,rfl,rfl,aR (by rw[eb];exact(XM _).symm),tV⟩
  rintro i hi
  have lb:=zjT p pen;have lj:=zl6 p pen i;have ll:(jG p pen++uZ p pen i).length<=50000:=by rw[Xp];omega
  have ej:=zjU p pen i;refine⟨λg=>?_,λg=>?_⟩;rotate_left
  ·have g:¬(i:Int)<p.pts.length:=g;have ei:uZ p pen i=zjB p pen:=by rw[zdj,Xb oM,show i=p.pts.length by omega]
   refine⟨λo=>?_,λo=>?_⟩;rotate_left
   ·refine kM ?_;unfold qq;rw[ei,ztL oM (λh=>o h.2),XM]
   have o:¬p.cl=true:=o;refine wd<|wb λx hx=>?_;have hx:=ul (show p.pts[1]?=some x from hx);refine wb λy hy=>?_;have hy:=ul (show p.pts[0]?=some y from hy);refine wg (zDm x y pen)<|wa<|wb λu hu=>?_;have hu:=ul (show p.pts[((p.pts.length:Int)-2).toNat]?=some u from hu);rw[show((p.pts.length:Int)-2).toNat=p.pts.length-2 by omega]at hu;refine wa<|wb λv hv=>?_;have hv:=ul (show p.pts[((p.pts.length:Int)-1).toNat]?=some v from hv)
   rw[show((p.pts.length:Int)-1).toNat=p.pts.length-1 by omega]at hv;refine wg (zDm u v pen)<|⟨LR,zE,[zbg x y pen,zbg u v pen],rfl,wb0 ?_⟩
   refine zb.give [2,5,6] 1 [.own 2,.loc 0 0] [(0,.box 104 [.own 1]),(1,.arr 155 zE 1 (jG p pen++uZ p pen i)),(2,.arr 155 zE 1 [zbg x y pen,zbg u v pen])] [(0,.box 104 [.own 3]),(3,.arr 155 zE 1 (uV (jG p pen++uZ p pen i) [zbg x y pen,zbg u v pen]))] (.tup []) (zyS (jG p pen++uZ p pen i) [zbg x y pen,zbg u v pen] oM sI)
      LEs.refl rfl rfl rfl ⟨⟨_,rfl,rfl,rfl⟩,⟨_,rfl,rfl,tV⟩,⟨_,rfl,rfl,tV⟩,tV⟩ rfl ⟨⟨rfl,rfl⟩,⟨rfl,tV⟩,tV⟩ ?_
   refine wh<|kM ?_;unfold qq;rw[zyQ,ei,zyW h2 o,hx,hy,hu,hv];exact XS ..
  have g:(i:Int)<p.pts.length:=g
  have skip:¬p.cl=true->i=0∨i=p.pts.length-1->jG p pen++uZ p pen i=jG p pen++uZ p pen (i+1):=λh k=>by
   rw[ej,show zhL p pen i=[] from Xe ⟨h,k⟩,XM]
  refine⟨λk=>?_,λk=>Br.mk (λk1=>Ar.fit oM (Br.mk (λk2=>?_) (λk2=>?_))) (λk1=>?_)⟩;rotate_left 2
  ·have k2:¬(i:Int)<(p.pts.length:Int)-1:=k2;exact wa<|⟨i+1,oM,zt [0,1,2,3,4,5] ⟨rfl,rfl,rfl,rfl,rfl,aR (skip k (.inr oM)),tV⟩,oN⟩
  ·have k1:¬(0:Int)<(i:Int):=k1;exact wa<|⟨i+1,oM,zt [0,1,2,3,4,5] ⟨rfl,rfl,rfl,rfl,rfl,aR (skip k (.inl oM)),tV⟩,oN⟩
  all_goals
   have kk:¬(¬p.cl=true/\(i=0∨i=p.pts.length-1)):=by
    first
    |exact λh=>h.1 k
    |exact λh=>absurd h.2 (by have k1:(0:Int)<(i:Int):=k1;have k2:(i:Int)<(p.pts.length:Int)-1:=k2;omega)
   refine wd<|wa<|wg (zrY p.pts ((i:Int)-1) ((i+p.pts.length-1)%p.pts.length) ⟨oM,hp⟩ ⟨oM,oM⟩ (by rw[show(i:Int)-1+p.pts.length=((i+p.pts.length-1:Nat):Int) by omega];omega))<|wb λx hx=>?_;have hx:=ul (show p.pts[i]?=some x from hx);refine wa<|wg (zrY p.pts ((i:Int)+1) ((i+1)%p.pts.length) ⟨oM,hp⟩ ⟨oM,oM⟩ (by rw[show(i:Int)+1+p.pts.length=((i+1:Nat):Int)+(p.pts.length:Int) by omega,Int.add_emod_right];omega)) ?_
   refine wg (zEF (nth p.pts ((i+p.pts.length-1)%p.pts.length)) x (nth p.pts ((i+1)%p.pts.length)) pen) ?_;have jl:=zl5 (nth p.pts ((i+p.pts.length-1)%p.pts.length)) x (nth p.pts ((i+1)%p.pts.length)) pen
   refine zb.give [2,5] 1 [.sl zE (uY (nth p.pts ((i+p.pts.length-1)%p.pts.length)) x (nth p.pts ((i+1)%p.pts.length)) pen),.loc 0 0] [(0,.box 104 [.own 1]),(1,.arr 155 zE 1 (jG p pen++uZ p pen i))] [(0,.box 104 [.own 2]),(2,.arr 155 zE 1 (uV (jG p pen++uZ p pen i) (uY (nth p.pts ((i+p.pts.length-1)%p.pts.length)) x (nth p.pts ((i+1)%p.pts.length)) pen)))] (.tup []) (zEM (jG p pen++uZ p pen i) (uY (nth p.pts ((i+p.pts.length-1)%p.pts.length)) x (nth p.pts ((i+1)%p.pts.length)) pen) oM oM)
    LEs.refl rfl rfl rfl ⟨⟨_,rfl,rfl,rfl⟩,⟨_,rfl,rfl,tV⟩,tV⟩ rfl ⟨⟨rfl,rfl⟩,⟨rfl,tV⟩,tV⟩ ?_
   refine wh<|wa<|⟨i+1,oM,zt [0,1,2,3,4,6] ⟨rfl,rfl,rfl,rfl,rfl,aR ?_,tV⟩,oN⟩;rw[zyR ztK,ej,show zhL p pen i=uY (nth p.pts ((i+p.pts.length-1)%p.pts.length)) (nth p.pts i) (nth p.pts ((i+1)%p.pts.length)) pen from Xb kk,hx];exact XS ..
def zbz{k:Nat}(h:r.length<=k):(qD r).length<=k:=by have:=zrD r;omega
def zy0(a b:Pt)(w:Int):(uy a b w).length<=16:=by
 unfold uy
 split
 ·simp
 exact zbz sI
def zr2(a:Pt)(w:Int):(zcw a w).length<=16:=by
 unfold zcw
 split
 ·simp
 exact zbz (by rw[Xz];decide)
def cap_l(a b:Pt)(w:Int):(zrE a b w).length<=16:=by
 unfold zrE
 split
 ·simp
 exact zbz sI
def zEN(a:Pt)(w:Int):(zjv a w).length<=16:=by
 unfold zjv
 split
 ·simp
 exact zbz sI
def end_l(a b:Pt)(p:Pen):(zbg a b p).length<=16:=by
 unfold zbg
 split
 ·exact cap_l ..
 split
 ·exact zr2 ..
 simp
def dot_l(a:Pt)(p:Pen):(zeV a p).length<=16:=by
 unfold zeV
 split
 ·exact zEN ..
 split
 ·exact zr2 ..
 simp
def zd2{k:Nat}(h:r.length<=k)(hq:q∈qH r):q.length<=k:=by rw[zvu hq];exact h
def zEO{a v b:Pt}{p:Pen}:∀r∈uY a v b p,r.length<=16:=by
 intro r hr;unfold uY at hr
 split at hr
 ·cases hr
 split at hr
 ·exact zd2 (zr2 ..) hr
 split at hr
 ·cases hr
 refine zd2 (zbz ?_) hr
 split <;> simp
def zEP{p:Pl}{pen:Pen}:∀r∈qq p pen,r.length<=16:=by
 intro r hr;unfold qq at hr
 rcases Xr.1 hr with hr|hr
 ·rcases Xr.1 hr with hr|hr
  ·rw[zby]at hr
   rcases Xr.1 hr with hr|hr
   ·unfold znJ at hr;obtain⟨i,_,hr⟩:=Qn.1 hr;exact zd2 (zy0 ..) hr
   split at hr
   ·exact zd2 (zy0 ..) hr
   cases hr
  rw[zdj]at hr
  split at hr
  ·cases hr
  unfold uZ at hr;obtain⟨i,_,hr⟩:=Qn.1 hr;unfold zhL at hr
  split at hr
  ·cases hr
  exact zEO r hr
 unfold zc9 at hr
 split at hr
 ·exact zd2 (dot_l ..) hr
 split at hr
 ·rcases Xr.1 hr with hr|hr <;> exact zd2 (end_l ..) hr
 cases hr
def zf6(r:LR)(rs:LN):qx (r::rs)=r.length+qx rs:=by unfold qx;simp
def zBA(a b:LN):qx (a++b)=qx a+qx b:=by unfold qx;simp
def ztN{k:Nat}:∀{rs:LN},(∀r∈rs,r.length<=k)->qx rs<=k*rs.length
 |[],_=>Xg _
 |r::rs,h=>by
  have h1:=h r (.head _);have h2:=ztN λq hq=>h q (.tail _ hq)
  rw[zf6,Xq,YL];omega
def um(p:Pl):(zL p).pts.length<=p.pts.length:=by
 have h:=zl3 p.pts;unfold zL;dsimp only
 split
 ·unfold qi
  split
  ·rw[QY];omega
  exact h
 exact h
def zl8{p:Pl}{pen:Pen}(hp:p.pts.length<=4096):qx (qq (zL p) pen)<=200000/\(qq (zL p) pen).length<=10000:=by
 have h1:=ztN (zEP (p:=zL p) (pen:=pen));have h2:=zrZ (zL p) pen;have h3:=um p;omega
def rgE(c:LN×Int):SV:=.tup [.sl zE c.1,i64 c.2]
variable{e:Int}
def yq{c:LN×Int}(h:c=([],e)):LE (.tup [nS,i64 e]) (rgE c):=by
 rw[h];exact zW zw .refl
def zr3(p:Pl)(pen:Pen)(hp:p.pts.length<=4096):CX 269 [.agg (plE p),ws pen] (rgE (qg p pen)):=by
 refine zd func269 ?_
 have es:qg p pen=if¬kV pen then([],13) else if¬∀q∈p.pts,zm q then([],6) else if 4096<p.pts.length then([],5)
  else if¬zaH (qq (zL p) pen) then([],6) else if 4096<qx (qq (zL p) pen) then([],5) else(qq (zL p) pen,0):=rfl
 refine wg (zdV pen)<|⟨λk=>?_,λk=>?_⟩
 ·have k:¬kV pen:=k;exact yq (by rw[es,Xe k])
 have k:kV pen:=Xc.1 k;rw[kD k]at es;refine⟨LR,zE,[p.pts],rfl,wb0 ?_⟩;have c1:qx [p.pts]=p.pts.length:=by rw[zf6];rfl
 refine wg (zjS [p.pts] oM) ?_;have a1:zaH [p.pts]↔∀q∈p.pts,zm q:=⟨λh=>h _ (.head _),λh r hr=>by rw[Xu.1 hr];exact h⟩;refine⟨λk2=>?_,λk2=>?_⟩
 ·have k2:¬∀q∈p.pts,zm q:=λh=>k2 (a1.2 h)
  exact yq (by rw[es,Xe k2])
 have k2:∀q∈p.pts,zm q:=a1.1 (Xc.1 k2);rw[kD k2,Xb (show¬4096<p.pts.length by omega)]at es;intro hl1;refine⟨λk3:(4096:Int)<p.pts.length=>?_,λ_=>?_⟩
 ·omega
 have rc:=zl8 (pen:=pen) hp;refine wd<|wg (zf5 p hp)<|wg (zBz (zL p) pen (by have:=um p;omega))<|wh<|wg (zjS (qq (zL p) pen) oM)<|⟨λk4=>?_,λk4=>?_⟩
 ·have k4:¬zaH (qq (zL p) pen):=k4;exact yq (by rw[es,Xe k4])
 have k4:zaH (qq (zL p) pen):=Xc.1 k4;rw[kD k4]at es;refine⟨λk5:(4096:Int)<(if zaH (qq (zL p) pen) then(qx (qq (zL p) pen):Int) else 0)=>?_,λk5:¬(4096:Int)<(if zaH (qq (zL p) pen) then(qx (qq (zL p) pen):Int) else 0)=>?_⟩
 ·rw[Xe k4]at k5;exact yq (by rw[es,Xe oM])
 rw[Xe k4]at k5;rw[Xb (show¬4096<qx (qq (zL p) pen) by omega)]at es;rw[es];exact .refl
def zdl(l:LY)(pen:Pen):LN:=l.flatMap λp=>(qg p pen).1
def zvM{l:LY}{x:Pl}(h:l[i]?=some x):zdl (l.take (i+1)) pen=zdl (l.take i) pen++(qg x pen).1:=by
 unfold zdl;rw[Xm,h,Qw];simp
def zhM{pen:Pen}:∀{l:LY},(∀p∈l,(qg p pen).2=0)->qr l pen=(zdl l pen,0)
 |[],_=>rfl
 |p::r,h=>by
  have ih:=zhM λq hq=>h q (.tail _ hq)
  unfold qr;rw[qV (h p (.head _)),ih];rfl
def zf7{pen:Pen}:∀{l:LY} {i:Nat} {x:Pl},l[i]?=some x->(∀p∈l.take i,(qg p pen).2=0)->¬(qg x pen).2=0->qr l pen=([],(qg x pen).2)
 |p::r,0,x,h,_,hx=>by
  cases h
  unfold qr;rw[Xe hx]
 |p::r,i+1,x,h,ha,hx=>by
  have ih:=zf7 (l:=r) (i:=i) h (λq hq=>ha q (by rw[Ko];exact .tail _ hq)) hx;unfold qr;rw[qV (ha p (by rw[Ko];exact .head _)),ih];exact Xe hx
def zf8(h:(qg p pen).2=0)(hp:p.pts.length<=4096):zaH (qg p pen).1/\qx (qg p pen).1<=4096/\(qg p pen).1.length<=10000:=by
 have rc:=zl8 (pen:=pen) hp;unfold qg at h ⊢
 split at h <;> rename_i k1
 ·cases h
 rw[Xb k1]
 split at h <;> rename_i k2
 ·cases h
 rw[Xb k2]
 split at h <;> rename_i k3
 ·cases h
 rw[Xb k3]
 split at h <;> rename_i k4
 ·cases h
 rw[Xb k4]
 split at h <;> rename_i k5
 ·cases h
 rw[Xb k5];exact⟨Xc.1 k4,oN,rc.2⟩
def zjW{pen:Pen}:∀{l:LY},(∀p∈l,(qg p pen).2=0)->(∀p∈l,p.pts.length<=4096)->zaH (zdl l pen)/\qx (zdl l pen)<=4096*l.length/\(zdl l pen).length<=10000*l.length
 |[],_,_=>⟨λr hr=>(by cases hr),Xi 0,Xi 0⟩
 |p::r,h,hl=>by
  obtain⟨i1,i2,i3⟩:=zjW (l:=r) (λq hq=>h q (.tail _ hq)) (λq hq=>hl q (.tail _ hq));obtain⟨f1,f2,f3⟩:=zf8 (h p (.head _)) (hl p (.head _));have e:zdl (p::r) pen=(qg p pen).1++zdl r pen:=rfl;rw[e,zBA,Xp,Xq];refine⟨λq hq=>?_,oM,oM⟩
  rcases Xr.1 hq with hq|hq
  ·exact f1 q hq
  exact i1 q hq
def zpT{P:Pl->Prop}{l:LY}{x:Pl}(h:l[i]?=some x)(ha:∀p∈l.take i,P p)(hx:P x):∀p∈l.take (i+1),P p:=by
 intro p hp;rw[Xm,h]at hp
 rcases Xr.1 hp with hp|hp
 ·exact ha p hp
 simp at hp;rw[hp];exact hx
def zvN(l:LY)(pen:Pen)(hl:l.length<=16777216)(hp:∀q∈l,q.pts.length<=4096):CX 192 [.sl plE l,ws pen] (rgE (jz l pen)):=by
 refine zd func192 ?_;have es:jz l pen=if¬kV pen then([],13) else if (qr l pen).2≠0 then([],(qr l pen).2) else if 4096<qx (qr l pen).1 then([],5) else((qr l pen).1,0):=rfl
 refine wg (zdV pen)<|⟨λk=>?_,λk=>?_⟩
 ·have k:¬kV pen:=k;exact yq (by rw[es,Xe k])
 have k:kV pen:=Xc.1 k;rw[kD k]at es;intro hl1;refine⟨Nat,λi=>⟨[(3,.loc 0 0),(6,.own 1),(16,.sl plE l),(17,i64 l.length),(18,i64 i)],[(0,.box 63 (yK pen)),(1,.arr 155 zE 1 (zdl (l.take i) pen))],2,43,0⟩,λi=>i<=l.length/\∀q∈l.take i,(qg q pen).2=0,λi=>l.length-i,0,?_,?_,?_⟩
 ·exact⟨Xg _,λq hq=>by cases hq⟩
 ·exact zA [(0,some 0),(1,none)]
 rintro i ⟨h1,h2⟩
 obtain⟨f1,f2,f3⟩:=zjW h2 λq hq=>hp q (XQ hq)
 rw[Xv]at f2 f3;refine⟨λg:(i:Int)<l.length=>?_,λg:¬(i:Int)<l.length=>?_⟩
 ·refine wb λx(hx:l[i]?=some x)=>?_;have hpx:=hp x (Xf hx);refine wg (zr3 x pen hpx)<|⟨λz=>?_,λz=>?_⟩
  ·have z:¬(qg x pen).2=0:=z;refine yq ?_;rw[es,zf7 hx h2 z];exact Xe z
  have z:(qg x pen).2=0:=Xc.1 z;obtain⟨s1,s2,s3⟩:=zf8 z hpx;refine⟨(qg x pen).1,rfl,Ob.mk ⟨(by show _*(24:Int)<=_;omega),oM,dC,λ_ _=>rfl⟩ ?_⟩;exact wa<|⟨i+1,⟨oM,zpT hx h2 z⟩,zt [0,3] ⟨rfl,aR (zvM hx).symm,tV⟩,oN⟩
 have et:l.take i=l:=Xk oM;rw[et]at h2 f1;rw[zhM h2,qV rfl]at es;have et2:zdl (l.take i) pen=zdl l pen:=by rw[et]
 refine wg (zjS (zdl (l.take i) pen) oM)<|⟨λk5=>?_,λk5=>?_⟩
 ·have k5:(4096:Int)<(if zaH (zdl (l.take i) pen) then(qx (zdl (l.take i) pen):Int) else 0):=k5;rw[et,Xe f1]at k5;exact yq (by rw[es,Xe oN])
 have k5:¬(4096:Int)<(if zaH (zdl (l.take i) pen) then(qx (zdl (l.take i) pen):Int) else 0):=k5;rw[et,Xe f1]at k5;rw[Xb oN]at es;rw[es];exact zW (kM et2) .refl
def zQ(q:Pl):LR:=if q.cl=true/\2<=q.pts.length then q.pts++[nth q.pts 0] else q.pts
def zbA(p:Pl):qP p=zQ (zL p):=rfl
def zpU{q:Pl}(h:q.cl=true)(k:2<=q.pts.length):zQ q=q.pts++[nth q.pts 0]:=Xe ⟨h,k⟩
def zBB{q:Pl}(h:¬(q.cl=true/\2<=q.pts.length)):zQ q=q.pts:=Xb h
def zaI{q:Pl}{i:Nat}(h:i<q.pts.length):nth (zQ q) i=nth q.pts i:=by
 unfold zQ
 split
 ·show(q.pts++[nth q.pts 0]).getD i zp=q.pts.getD i zp;rw[Xn,XH h];exact(Xn ..).symm
 rfl
def zpV{q:Pl}(h:q.cl=true)(k:2<=q.pts.length):nth (zQ q) q.pts.length=nth q.pts 0:=by
 rw[zpU h k];show(q.pts++[nth q.pts 0]).getD q.pts.length zp=nth q.pts 0;rw[Xn,XB (Xi _),Q3];rfl
def zcc{q:Pl}(h:q.cl=true)(k:2<=q.pts.length):(zQ q).length=q.pts.length+1:=by rw[zpU h k,Xp];rfl
def za3{q:Pl}(h:¬(q.cl=true/\2<=q.pts.length)):(zQ q).length=q.pts.length:=by rw[zBB h]
def yr(q:Pl):q.pts.length<=(zQ q).length/\(zQ q).length<=q.pts.length+1:=by
 by_cases h:q.cl=true/\2<=q.pts.length
 ·rw[zcc h.1 h.2];omega
 rw[za3 h];omega
def zjX(q:Pl):List (Pt×Pt):=(List.range ((zQ q).length-1)).map λi=>(nth (zQ q) i,nth (zQ q) (i+1))
def segE(s:Pt×Pt):LQ:=[wk s.1,wk s.2]
def znL{q:Pl}(h:i<(zQ q).length-1):(zjX q)[i]?=some (nth (zQ q) i,nth (zQ q) (i+1)):=by
 unfold zjX;rw[XA,KT h];rfl
def zf9(q:Pl):(zjX q).length=(zQ q).length-1:=by unfold zjX;simp
def zr4(q:Pl):CX 329 [.agg (plE q)] (.dfn 387 [.dptr (plE q)]):=by
 exact yp 2 tok mix func329 rfl rfl rfl<|.refl
def zBC(q:Pl)(hq:q.pts.length<=4096):zew prog 387 [.dptr (plE q)] segE (zjX q):=by
 refine zih (caps:=[.dptr (plE q)]) (enc:=segE) (xs:=zjX q) tok mix func387 rfl rfl rfl rfl (λl=>?_);intro hl1;refine⟨Nat,λk=>⟨[(0,.val (.func (.yield l) #[] #[])),(1,.dptr (plE q)),(3,i64 q.pts.length),(4,i64 ((k:Int)+1))],[],0,45,0⟩,λk=>k,λk=>k<=q.pts.length-1,λk=>q.pts.length-k,0,?_,?_,rfl,rfl,?_⟩
 ·exact Xg _
 ·exact zA []
 rintro k hk
 have ll:=yr q;refine⟨λg:(k:Int)+1<q.pts.length=>?_,λg:¬(k:Int)+1<q.pts.length=>?_⟩
 ·refine YDr.split 12 (Ob.mk (by decide +kernel) ?_);refine wa<|wb λx hx=>?_
  have hx:=ul (show q.pts[k]?=some x by
   have hx:q.pts[((k:Int)+1-1).toNat]?=some x:=hx
   rwa [show((k:Int)+1-1).toNat=k by omega]at hx)
  refine wb λy hy=>?_;have hy:=ul (show q.pts[k+1]?=some y from hy);refine⟨rfl,(x,y),(by show(zjX q)[k]?=some (x,y);rw[znL oM,zaI oM,zaI oM,hx,hy]),rfl,.C (.C .nil),(λ_ _ h=>by cases h),?_⟩;refine Br.mk ?_ ?_
  ·refine wa ?_;refine⟨k+1,oM,qN [] ⟨rfl,rfl,rfl,iR oM,tV⟩ trivial,rfl,rfl,oN⟩
  exact .inl rfl
 have ek:k=q.pts.length-1:=oM;have no:¬(q.cl=true/\2<=q.pts.length)->k=(zjX q).length:=λh=>by rw[zf9,za3 h];exact ek
 refine⟨λc=>?_,λc=>.inr (no λh=>c h.1)⟩;have c:q.cl=true:=c;refine⟨λn1=>?_,λn1=>.inr (no λh=>by have n1:¬(1:Int)<q.pts.length:=n1;omega)⟩;have n1:(1:Int)<q.pts.length:=n1;have le:=zcc c (show 2<=q.pts.length by omega);refine YDr.split 11 (Ob.mk (by decide +kernel) ?_);refine wa<|wb λx hx=>?_
 have hx:=ul (show q.pts[q.pts.length-1]?=some x by
  have hx:q.pts[((q.pts.length:Int)-1).toNat]?=some x:=hx
  rwa [show((q.pts.length:Int)-1).toNat=q.pts.length-1 by omega]at hx)
 refine wb λy hy=>?_;have hy:=ul (show q.pts[0]?=some y from hy);refine⟨rfl,(x,y),?_,rfl,.C (.C .nil),(λ_ _ h=>by cases h),?_⟩
 ·show(zjX q)[k]?=some (x,y);rw[znL oM,ek,zaI oM,show q.pts.length-1+1=q.pts.length by omega,zpV c oM,hx,hy]
 refine Br.mk ?_ ?_
 ·refine .inr ?_;show k+1=(zjX q).length;rw[zf9];omega
 exact .inl rfl
structure Me where
 ln:LR
 ts:LU
 lg:Int
def meE(m:Me):LQ:=[.sl ptE m.ln,.sl zN m.ts,i64 m.lg]
def tsL(c:LR)(n:Nat):LU:=(List.range n).map (atS c)
def ztO(p:Pl):Me:=if ∀q∈p.pts,zm q then⟨(zL p).pts,tsL (qP p) ((qP p).length-1),qf p⟩ else⟨[],[],0⟩
def zy1(c:LR)(n:Nat):tsL c (n+1)=tsL c n++[atS c n]:=by
 unfold tsL;rw[KI,XG];rfl
def zij(c:LR)(n:Nat):(tsL c n).length=n:=by unfold tsL;simp
def zg0{c:LR}{n:Nat}{x:Int}(h:(tsL c n)[i]?=some x):x=atS c i:=by
 have hi:i<n:=by have:=(Xd.1 h).1;rwa [zij]at this
 unfold tsL at h;rw[XA,KT hi]at h;exact(Xl h).symm
def zhN(a b:Pt):0<=znB a b/\znB a b<4294967296:=zlE _
def zbB(c:LR)(n:Nat):0<=atS c n/\atS c n<=4294967296*(n:Int):=by
 induction n with
 |zero=>exact⟨Qi 0,by show(0:Int)<=_;decide⟩
 |succ n ih=>
  have:=zhN (nth c n) (nth c (n+1));unfold atS;omega
def zl9(p:Pl)(hp:p.pts.length<=4096):CX 265 [.agg (plE p)] (.tup [.agg (meE (ztO p)),pr (∀q∈p.pts,zm q)]):=by
 refine uz 2 tok mix func265 rfl rfl rfl λhl1=>?_;refine⟨Nat,λi=>⟨[(1,.loc 0 0),(2,.loc 1 0),(11,.sl ptE p.pts),(12,i64 p.pts.length),(13,i64 i)],[(0,.box 204 [.sl ptE p.pts,pr (p.cl=true)]),(1,.box 276 [nS,nS,i64 0])],2,47,0⟩,λi=>i<=p.pts.length/\∀q∈p.pts.take i,zm q,λi=>p.pts.length-i,0,?_,?_,?_⟩
 ·exact⟨Xg _,λq hq=>by cases hq⟩
 ·exact zi [0,1]
 rintro i ⟨h1,h2⟩
 refine⟨λg:(i:Int)<p.pts.length=>?_,λg:¬(i:Int)<p.pts.length=>?_⟩
 ·refine wb λx(hx:p.pts[i]?=some x)=>?_;refine wg (kC x)<|⟨λk=>?_,λk=>?_⟩
  ·have k:¬∀q∈p.pts,zm q:=λh=>k (h x (Xf hx))
   have e:ztO p=⟨[],[],0⟩:=Xb k;rw[e];exact zW (jg (.cons zw (.cons zw (.C .nil)))) (zc k)
  have k:=Xc.1 k;refine wa<|⟨i+1,⟨oM,λq hq=>?_⟩,zi [0,1],oN⟩;rw[Xm,hx]at hq
  rcases Xr.1 hq with hq|hq
  ·exact h2 q hq
  simp at hq;rw[hq];exact k
 rw[Xk oM]at h2;have dl:=um p;have ll:=yr (zL p);refine wg (zf5 p hp)<|wg (zr4 (zL p)) ?_
 refine⟨Pt×Pt,segE,zjX (zL p),2,[(2,.loc 0 0),(7,.loc 1 0)],λj=>[(0,.box 276 [nS,nS,i64 0]),(1,.box 276 [.sl ptE (zL p).pts,.own 2,i64 (atS (qP p) j)]),(2,.arr 3 zN 1 (tsL (qP p) j))],λ_=>3,zBC (zL p) oM,λ_=>rfl,⟨rfl,rfl,rfl,rfl⟩,
  zA [(0,some 1),(1,some 3),(2,none)],⟨Xg _,rfl⟩,λj=>?_,?_,?_⟩
 ·intro k m hm;simp only[XD,XR,or_false,KL]at hm
  obtain⟨_,rfl⟩|⟨_,rfl⟩|⟨_,rfl⟩:=hm
  ·rfl
  ·rfl
  trivial
 ·intro j y hy _;have hj:j<(qP p).length-1:=by have:=(Xd.1 hy).1;rwa [zf9]at this
  have hy:y=(nth (qP p) j,nth (qP p) (j+1)):=by rw[znL hj]at hy;exact(Xl hy).symm
  have hat:=zbB (qP p) j;have hpc:=zhN y.1 y.2;have e1:=zij (qP p) j;have ll':(qP p).length<=4097:=by rw[zbA];omega
  refine⟨Int,zN,[atS (qP p) j],rfl,wb0 ?_⟩;refine⟨[atS (qP p) j],rfl,Ob.mk ⟨(by show _*(8:Int)<=_;simp only[Xq,Xt];omega),(by simp only[Xq,Xt];omega),dC,λ_ _=>rfl⟩ ?_⟩;refine wd<|wg (zxW y.2 y.1)<|wg (zxY (zns y.2 y.1)) ?_;unfold znB at hpc;refine wa<|wh<|zt [0,1,6] ⟨rfl,Xj (λq=>some (Mem.box 276 [.sl ptE (zL p).pts,.own 6,i64 q])) ?_,aR (zy1 _ _).symm,tV⟩;rw[hy];rfl
 intro _;have e:ztO p=⟨(zL p).pts,tsL (qP p) ((qP p).length-1),qf p⟩:=Xe h2;rw[e];have e2:=zf9 (zL p);rw[←zbA]at e2;refine zW (jg (.C (.cons (kM ?_) (.cons (zh ?_) .nil)))) (zI h2)
 ·rw[e2]
 rw[e2];rfl
def zy2(pen:Pen)(t:Nat):phD pen t=((t:Int)+256*pen.ph)%uh pen.d:=by unfold phD;exact(Int.add_emod ..).symm
def zg1{d:LU}(h:∀n∈d,0<=n)(hi:i<=d.length):0<=qF d i/\qF d i<=uh d:=by
 have h1:=zgX h (Xg i);have h2:=zgX h hi;rw[vj]at h1;rw[vD]at h2;exact⟨h1,h2⟩
variable{a:Nat}{lft:Int}
def ph_at{t:Nat}(hn:∀n∈pen.d,0<=n)(he:pen.d[i]?=some e)(hl:lft<=256*e)(hc:uh pen.d ∣ qF pen.d (i+1)-lft-((a:Int)+256*pen.ph))(h1:a<=t)(h2:(t:Int)-a<lft):phD pen t=qF pen.d (i+1)-lft+((t:Int)-a):=by
 have hi:i<pen.d.length:=(Xd.1 he).1;have hp:=zg1 hn (show i<=pen.d.length by omega);have hq:=zg1 hn (show i+1<=pen.d.length by omega);have hs:=vi he;obtain⟨q,hq'⟩:=hc;rw[zy2];have e1:(t:Int)+256*pen.ph=(qF pen.d (i+1)-lft+((t:Int)-a))+uh pen.d*(-q):=by rw[QV];omega
 rw[e1,Int.add_mul_emod_self_left];exact Int.emod_eq_of_lt oM oM
def on_at{t:Nat}(hn:∀n∈pen.d,0<=n)(he:pen.d[i]?=some e)(hl:lft<=256*e)(hc:uh pen.d ∣ qF pen.d (i+1)-lft-((a:Int)+256*pen.ph))(h1:a<=t)(h2:(t:Int)-a<lft):onD pen t↔i%2=0:=by
 have hs:=vi he;unfold onD;rw[ph_at hn he hl hc h1 h2,zig hn he oM oM];show(0+i)%2=0↔_;rw[X9]
def zBD{b:Nat}{e':Int}(hi:i<pen.d.length)(he':pen.d[(i+1)%pen.d.length]?=some e')(hc:uh pen.d ∣ qF pen.d (i+1)-lft-((a:Int)+256*pen.ph))(hb:(b:Int)=a+lft):
  uh pen.d ∣ qF pen.d ((i+1)%pen.d.length+1)-256*e'-((b:Int)+256*pen.ph):=by
 rw[vi he']
 by_cases h:i+1<pen.d.length
 ·rw[Xw h]
  rwa [show qF pen.d (i+1)+256*e'-256*e'-((b:Int)+256*pen.ph)=qF pen.d (i+1)-lft-((a:Int)+256*pen.ph) by omega]
 have hl:i+1=pen.d.length:=by omega
 rw[hl,JU,vj];rw[hl,vD]at hc;rw[show(0:Int)+256*e'-256*e'-((b:Int)+256*pen.ph)=(uh pen.d-lft-((a:Int)+256*pen.ph))-uh pen.d by omega];exact Int.dvd_sub hc (Int.dvd_refl _)
def uB(r:Nat)(d:LU)(n:Nat):Int:=((List.range n).map λi=>if i%2=r then d.getD i 0 else 0).sum
def zma(r:Nat)(d:LU)(n:Nat):uB r d (n+1)=uB r d n+if n%2=r then d.getD n 0 else 0:=by
 unfold uB;rw[KI,XG,QP];simp
def zga{r:Nat}{d:LU}{n:Nat}{x:Int}(hx:d[n]?=some x)(h:n%2=r):uB r d (n+1)=uB r d n+x:=by
 rw[zma,Xe h,Xn,hx];rfl
def zjY{r:Nat}{d:LU}{n:Nat}(h:¬n%2=r):uB r d (n+1)=uB r d n:=by
 rw[zma,Xb h,JS]
def zgb(d:LU):∀n,n<=d.length->256*(uB 0 d n+uB 1 d n)=qF d n
 |0,_=>rfl
 |n+1,h=>by
  have ih:=zgb d n oM;have hx:d[n]?=some d[n]:=Xa oM;rw[vi hx]
  rcases J1 n with k|k
  ·rw[zga hx k,zjY (r:=1) oM];omega
  rw[zga hx k,zjY (r:=0) oM];omega
def zjZ(d:LU):drawn d=256*uB 0 d d.length:=rfl
def zcd{r:Nat}{d:LU}(h:∀n∈d,0<=n):∀n,n<=d.length->0<=uB r d n
 |0,_=>Qi 0
 |n+1,hn=>by
  have ih:=zcd (r:=r) h n oM;have hx:d[n]?=some d[n]:=Xa oM;have:=h d[n] (X5 _)
  by_cases k:n%2=r
  ·rw[zga hx k];omega
  rw[zjY k];exact ih
def zce{d:LU}(h:vP d):(∀n∈d,0<=n)/\(∀n∈d,n<=1048576)/\d.length<=16/\uh d<=4294967296:=by
 have h2:∀n∈d,n<=1048576:=λn hn=>(h.1 n hn).2
 have h3:d.length<=16:=by have:=h.2.2.2;omega
 have:=zyg h2;exact⟨λn hn=>(h.1 n hn).1,h2,h3,by unfold uh;omega⟩
def frI:LI->Int
 |none=> -1
 |some f=>f
def znM{o:LI}(h:frI o<0):o=none:=by
 cases o with
 |none=>rfl
 |some f=>have h:(f:Int)<0:=h;omega
def znN{o:LI}(h:¬frI o<0):∃f,o=some f/\frI o=f:=by
 cases o with
 |none=>exact absurd (show(-1:Int)<0 by decide) h
 |some f=>exact⟨f,rfl,rfl⟩
def zvO(pen:Pen)(hk:kV pen)(hper:0<uh pen.d):CX 333 [ws pen,i64 0] (.tup [i64 ((zhI pen.d (phD pen 0) 0).1:Int),i64 (zhI pen.d (phD pen 0) 0).2]):=by
 refine zd func333 ?_;obtain⟨d1,d2,d3,d4⟩:=zce hk.2.2.2.2.1;have hph:=hk.2.2.2.2.2;intro hl1;refine⟨Nat,λi=>⟨[(1,i64 0),(2,.loc 0 0),(6,i64 (qF pen.d i)),(13,.sl zN pen.d),(14,i64 pen.d.length),(15,i64 i)],[(0,.box 63 (yK pen))],1,57,0⟩,λi=>i<=pen.d.length,λi=>pen.d.length-i,0,?_,?_,?_⟩
 ·exact Xg _
 ·exact zi [0]
 rintro i hi
 have hpi:=zg1 d1 hi;refine⟨λg:(i:Int)<pen.d.length=>?_,λg:¬(i:Int)<pen.d.length=>?_⟩
 ·refine wb λx(hx:pen.d[i]?=some x)=>?_;have hx1:=d1 x (Xf hx);have hx2:=d2 x (Xf hx);(iterate 3 refine wa ?_);exact⟨i+1,oM,ku [0] ⟨rfl,rfl,iR (vi hx).symm,rfl,rfl,rfl,tV⟩ ⟨rfl,tV⟩,oN⟩
 have ei:i=pen.d.length:=oM;have eP:qF pen.d i=uh pen.d:=by rw[ei,vD]
 have m1:=K2 (256*pen.ph) (show qF pen.d i≠0 by omega);have m2:=KY (256*pen.ph) (show 0<qF pen.d i by omega);have m3:(0:Int)%qF pen.d i=0:=Int.zero_emod _;have m4:=K2 (0%qF pen.d i+256*pen.ph%qF pen.d i) (show qF pen.d i≠0 by omega);have m5:=KY (0%qF pen.d i+256*pen.ph%qF pen.d i) (show 0<qF pen.d i by omega);refine wc<|Dv.pos ⟨oM,oM⟩<|wa<|Dv.pos ⟨oM,oM⟩<|wa<|Dv.pos ⟨oM,oM⟩ ?_
 have ek:phD pen 0=(0%qF pen.d i+256*pen.ph%qF pen.d i)%qF pen.d i:=by rw[eP];rfl
 rw[←ek]at m4 m5;intro hl2;refine⟨Nat,λi=>⟨[(9,i64 (phD pen 0-qF pen.d i)),(36,.sl zN pen.d),(37,i64 pen.d.length),(38,i64 i)],[],0,57,0⟩,λi=>i<=pen.d.length/\qF pen.d i<=phD pen 0,λi=>pen.d.length-i,0,?_,?_,?_⟩
 ·exact⟨Xg _,by rw[vj];exact m4⟩
 ·exact qN [] ⟨iR (by rw[vj,Int.sub_zero];exact ek.symm),rfl,rfl,rfl,tV⟩ trivial
 rw[eP]at m5
 rintro i ⟨hi,hle⟩
 have hpi:=zg1 d1 hi;refine⟨λg:(i:Int)<pen.d.length=>?_,λg:¬(i:Int)<pen.d.length=>?_⟩
 ·refine wb λx(hx:pen.d[i]?=some x)=>?_;have hx1:=d1 x (Xf hx);have hx2:=d2 x (Xf hx);have hs:=vi hx;refine wa<|Br.mk (λc=>?_) (λc=>?_)
  ·have c:phD pen 0-qF pen.d i<256*x:=c;have hp:=zig (i0:=0) d1 hx hle oM;(iterate 2 refine wa ?_);refine zW (zh ?_) (zh ?_)
   ·rw[hp];show(i:Int)=((0+i:Nat):Int);omega
   rw[hp];dsimp only;omega
  have c:¬phD pen 0-qF pen.d i<256*x:=c;(iterate 3 refine wa ?_);exact⟨i+1,⟨oM,oM⟩,qN [] ⟨iR (by rw[hs];omega),rfl,rfl,rfl,tV⟩ trivial,oN⟩
 have:qF pen.d i=uh pen.d:=by rw[show i=pen.d.length by omega,vD]
 omega
end Go.Gs
