/- Paths cut to polylines, the program's. -/
import Derived.Test.YtdkomlilfdbahaaGreatDoorMAU
set_option maxRecDepth 100000
set_option maxHeartbeats 80000000
set_option linter.all false
namespace Go.Gs
open Proofs.Tryz
open Go.Proofs
variable{cl:LZ}{b:SV}
def zp1{k:Nat}{y:LR}{n:Int}(a:n=(cl.length:Int))(h:(jR cl k b)[n.toNat]?=some y):y=[.own k,b]:=by
 subst a;exact zuv h sI
def zhB{k:Nat}{w:LR}{n:Int}(a:n=(cl.length:Int)):(jR cl k b).set n.toNat w=cl.map plE++[w]:=by
 subst a;exact zkl sI
def zez{k:Nat}{w y:LR}{n:Int}(a:n=(cl.length:Int))(h:((jR cl k b).set n.toNat w)[n.toNat]?=some y):y=w:=by
 rw[zhB a]at h;subst a;exact zuv h sI
def zyc{k:Nat}{w w':LR}{n:Int}(a:n=(cl.length:Int)):((jR cl k b).set n.toNat w).set n.toNat w'=cl.map plE++[w']:=by
 rw[zhB a];subst a;exact zkl sI
def zsq{cl:LZ}{p:Pl}{a:Nat}(T:LN):
  ∀(i j:Nat) (x':LR) (s':SV),((cl++[p]).map plE++T)[i]?=some x'->x'[j]?=some s'->∃(x:LR) (s:SV),(jR cl a (pr (p.cl=true))++T)[i]?=some x/\x[j]?=some s/\(s'=s∨(s=.own a/\s'=.sl ptE p.pts)):=by
 intro i j x' s' e d;unfold jR;rw[Xz]at e;generalize cl.map plE=L at*
 rcases Qx i L.length with h|h|h
 .rw[XL,XN h]at e;exact⟨x',s',by rw[XL,XN h];exact e,d,.inl rfl⟩
 .subst h;rw[XL,XG (Xj _)]at e;simp at e;subst e;refine⟨[.own a,pr (p.cl=true)],?_⟩
  match j,d with
  |0,d=>simp[plE]at d;subst d;exact⟨.own a,sI,rfl,.inr ⟨rfl,rfl⟩⟩
  |1,d=>simp[plE]at d;subst d;exact⟨pr (p.cl=true),sI,rfl,.inl rfl⟩
  |j+2,d=>simp[plE]at d
 rw[XG (by simp;omega)]at e;refine⟨x',s',?_,d,.inl rfl⟩;rw[XG (by simp;omega)];rw[←e];congr 1;simp
def zp2(p:Pt)(s:Sg)(tol:Int):(kN p s tol).1.length<=64:=by
 unfold kN
 split
 .unfold zdJ;split
  .exact Xh _
  rename_i h;have ok:=(yX (show(k8 _ tol _).2=0 from Xa.1 h)).1;have ok:1<=(j9 p s.a s.b tol).1/\(j9 p s.a s.b tol).1<=64:=ok;dsimp only;rw[zaE];omega
 split
 .unfold zdK;split
  .exact Xh _
  rename_i h;have ok:=(yX (show(k8 _ tol _).2=0 from Xa.1 h)).1;have ok:1<=(ya p s.a s.b s.c tol).1/\(ya p s.a s.b s.c tol).1<=64:=ok;dsimp only;rw[zaE];omega
 show 1<=64;decide
variable{l:LU}{z:Pt}
def zBq(h:l[l.length-1]?=some z):qV l=z:=by
 unfold qV;rw[Je,K9,h];rfl
variable{i:Nat}
def zoj{l:LZ}{x:Pl}(h:l[i]?=some x):jy (l.take (i+1))=jy (l.take i)+x.pts.length:=by
 unfold jy;rw[Xn,h];simp
def zp3{l:LZ}{B:Nat}(h:∀q∈l,q.pts.length<=B):∀i,i<=l.length->jy (l.take i)<=B*i
 |0,_=>Xh _
 |i+1,hi=>by
  have a:l[i]?=some l[i]:=Xb oM;rw[zoj a];have:=zp3 h i oM;have:=h _ (X5 (show i<l.length by omega));rw[YX];omega
def zp4(c:LZ×Int):SV:=.tup [.sl plE c.1,i64 c.2]
variable{c:LZ×Int}
def zBr{a:LZ}{b:Int}(h:c=(a,b)):LE (.tup [.sl plE a,i64 b]) (zp4 c):=by subst h;exact .refl
def jA{b:Int}(h:c=([],b)):LE (.tup [nS,i64 b]) (zp4 c):=by subst h;exact zP zD .refl
variable{q:LU}{f:Pt}
def zhC(a:1<q.length)(g:q[q.length-1]?=some z)(d:q[0]?=some f)(e:z=f):qo q=q.take (q.length-1):=by
 unfold qo;rw[K9,g,Jy,d,e,Xe ⟨a,rfl⟩,List.dropLast_eq_take]
def zkn(d:q[q.length-1]?=some z)(a:q[0]?=some f)(e:¬z=f):qo q=q:=by
 unfold qo;rw[K9,d,Jy,a,Xc (λk=>e (Xl k.2))]
def zhD(h:¬1<q.length):qo q=q:=by
 unfold qo;rw[Xc (λk=>h k.1)]
def zsr(q:LU):(qo q).length<=q.length:=by
 unfold qo;split
 .rw[Q4];omega
 exact Xj _
variable{tol:Int}{p:Pl}
def zss{s:Sg}(a:¬s.v=1):uq tol (cl++[p],0) s=if (zbH p s tol).2≠0 then([],(zbH p s tol).2) else(cl++[(zbH p s tol).1],0):=by
 rw[zhu,Xc a];have e:(cl++[p]).getLastD ⟨[],false⟩=p:=by simp
 rw[e,JP]
def zEe{s:Sg}(h:zdP s):zm s.a/\zm s.b/\zm s.c:=⟨h.1.1,h.2.1.1,h.2.2.1⟩
def zBs(l:LX)(tol:Int):CX 177 [.sl sgE l,i64 tol] (zp4 (zY l tol)):=by
 refine zc func177<|wg (zkf l)<|⟨λL=>jA (by unfold zY;rw[Xe L]),λL=>?_⟩;have A:=Xa.1 L;have S:=ziI A;have T:=(zbh.1 A).2;have E:¬zfV tol->zY l tol=([],2):=λh=>by unfold zY;rw[kI A,Xe h]
 refine⟨λB=>jA (E (λh=>by have B:tol<1:=B;unfold zfV at h;omega)),λB=>?_⟩;refine⟨λD=>jA (E (λh=>by have D:256<tol:=D;unfold zfV at h;omega)),λD=>?_⟩;have ht:zfV tol:=⟨by have B:¬tol<1:=B;omega,by have D:¬256<tol:=D;omega⟩;have eQ:zY l tol=if (jr l tol).2≠0 then([],(jr l tol).2) else if 4096<jy (jr l tol).1 then([],5) else((jr l tol).1,0):=by unfold zY;rw[kI A,kI ht]
 intro U
 refine⟨Nat×Option (LZ×Pl),λq=>match q with
   |(i,none)=>⟨[(1,i64 tol),(6,.val (.slice none 0 0)),(27,.sl sgE l),(28,i64 l.length),(29,i64 i)],[],0,128,0⟩
   |(i,some (cl,p))=>⟨[(1,i64 tol),(6,.own 0),(27,.sl sgE l),(28,i64 l.length),(29,i64 i)],[(0,.garr 191 2 (jR cl 1 (pr (p.cl=true)))),(1,.arr 28 ptE 2 p.pts)],2,128,0⟩,
  λq=>match q with
   |(i,none)=>i=0
   |(i,some (cl,p))=>0<i/\i<=l.length/\jr (l.take i) tol=(cl++[p],0)/\cl.length<i/\p.pts.length<=1+64*i/\∀q∈cl,q.pts.length<=20000,λq=>l.length-q.1,(0,none),rfl,?_,?_⟩
 .exact zB []
 rintro⟨i,_|⟨cl,p⟩⟩ hI
 .have hI:i=0:=hI;subst hI;refine⟨λg:(0:Int)<l.length=>?_,λg:¬(0:Int)<l.length=>?_⟩
  .refine Ob.mk ⟨dC,g⟩ λx(t:l[0]?=some x)=>?_;have G:x.v=1:=zjG A x t;refine⟨λ_=>?_,λh=>absurd G h⟩;refine⟨Pt,ptE,[x.a],rfl,wb0 ?_⟩;refine⟨[[.own 1,.val (.bool false)]],rfl,wb8 ?_⟩;refine Ob.mk ⟨by show((1:Nat):Int)*32<=_;decide,by show 1<=_;decide,dC⟩<|Ar.fit dC ?_;have e:=zag (tol:=tol) t
   refine⟨(1,some ([],⟨[x.a],false⟩)),⟨dC,oM,?_,dC,by show 1<=_;decide,λq o=>by cases o⟩,
    (ze8 3 rfl (ys:=jR [] 1 (pr ((⟨[x.a],false⟩:Pl).cl=true))) (.cons (.C (.cons (zd (show¬(false=true) by decide)) .nil)) .nil)).trans (zt [3,1] ⟨⟨_,rfl,zau rfl⟩,rfl,tV⟩),by show l.length-1<l.length-0;omega⟩
   rw[e];show uq tol ([],0) x=_;rw[zhu,Xe G]
  have M:l=[]:=Xq oM;refine⟨Unit,λ_=>⟨[(6,nS),(13,i64 0),(114,i64 0),(115,i64 0)],[],0,128,0⟩,λ_=>True,λ_=>0,(),tV,zB [],?_⟩
  rintro⟨⟩ _
  refine⟨λg=>absurd g dC,λ_=>?_⟩;refine⟨λg=>absurd g dC,λ_=>?_⟩;refine jA ?_;rw[eQ,M];rfl
 obtain⟨k0,Y,H,k3,k4,K⟩:0<i/\i<=l.length/\jr (l.take i) tol=(cl++[p],0)/\cl.length<i/\p.pts.length<=1+64*i/\∀q∈cl,q.pts.length<=20000:=hI;have inv:=zlQ (tol:=tol) (lo:=⟨-1048576,-1048576⟩) (hi:=⟨1048576,1048576⟩) T (λp W=>zA3 A p W) i Y (by rw[H]);rw[H]at inv;obtain⟨pne,_,pok⟩:=inv.2 p sI;have X:0<p.pts.length:=Ki λh=>pne (Xq h)
 refine⟨λg:(i:Int)<l.length=>?_,λg:¬(i:Int)<l.length=>?_⟩
 .refine Ob.mk ⟨oM,g⟩ λx(t:l[i]?=some x)=>?_;have e:=zag (tol:=tol) t;rw[H]at e;have I:=zEe (zlU T x (Xf t));refine⟨λv1:x.v=1=>?_,λv1:¬x.v=1=>?_⟩
  .refine⟨Pt,ptE,[x.a],rfl,wb0 ?_⟩;refine⟨[[.own 3,.val (.bool false)]],rfl,wb8 ?_⟩;refine Ob.mk ⟨by show _*(32:Int)<=_;rw[zaF];simp only[Xm,Xo];omega,by rw[zaF];simp only[Xm,Xo];omega,dC⟩<|wa ?_
   refine⟨(i+1,some (cl++[p],⟨[x.a],false⟩)),⟨oM,oM,?_,?_,?_,?_⟩,
    ((ze8 5 rfl (ys:=jR cl 1 (pr (p.cl=true))++[[.own 3,pr ((⟨[x.a],false⟩:Pl).cl=true)]]) (Rows.app .refl (.cons (.C (.cons (zd (show¬(false=true) by decide)) .nil)) .nil))).trans
     (za6 (sz0:=2) (T0:=191) 1 5 (enc:=ptE) (ys:=p.pts) rfl rfl (xs':=jR (cl++[p]) 3 (pr ((⟨[x.a],false⟩:Pl).cl=true))) (by simp[jR]) (λz d=>?_) (zsq _))).trans
     (zt [5,3] ⟨⟨_,rfl,zau rfl⟩,rfl,tV⟩),by show l.length-(i+1)<l.length-i;omega⟩
   .rw[e,zhu,Xe v1]
   .simp only[Xr,Xm,Xo];omega
   .show 1<=_;omega
   .intro q o
    rcases Xu.1 o with o|o
    .exact K q o
    rw[Xt.1 o];omega
   rcases Xu.1 d with d|d
   .obtain⟨w,_,rfl⟩:=XK.1 d;rfl
   rw[Xt.1 d];rfl
  rw[zss v1]at e;intro V;refine wa ?_;have Q:=zaF cl 1 (pr (p.cl=true));have hN:((jR cl 1 (pr (p.cl=true))).length:Int)-1=cl.length:=by rw[Q];omega
  have hrow:0<=((jR cl 1 (pr (p.cl=true))).length:Int)-1/\((jR cl 1 (pr (p.cl=true))).length:Int)-1<(jR cl 1 (pr (p.cl=true))).length:=oM;refine Ob.mk hrow<|Br.mk (λu=>?_) (λu=>?_)
  .have u:¬x.v=5:=u;refine wd<|Ob.mk hrow λy r=>?_;obtain rfl:=zp1 hN r;refine Ob.mk hrow λy r=>?_;obtain rfl:=zp1 hN r;intro N;refine wa<|wb<|wb λz d=>?_
   have d:p.pts[p.pts.length-1]?=some z:=by
    have d:p.pts[((p.pts.length:Int)-1).toNat]?=some z:=d
    rwa [show((p.pts.length:Int)-1).toNat=p.pts.length-1 by omega]at d
   have P:=zBq d
   have eg:zbH p x tol=if (kN z x tol).2≠0 then(p,(kN z x tol).2) else(⟨kz p.pts (kN z x tol).1,p.cl⟩,0):=by
    unfold zbH;rw[Xc u,P]
   refine wg (p_seg z x tol (pok z (Xf d)) I)<|wh ?_;have sl:=zp2 z x tol;refine⟨λk:¬(kN z x tol).2=0=>?_,λk=>?_⟩
   .refine jA ?_;rw[Xe k]at eg;rw[eg,Xe k]at e;have:=zn1 t (by rw[e];exact k);rw[e]at this;rw[eQ,this,Xe k]
   have k:(kN z x tol).2=0:=Xa.1 k;rw[qP k]at eg;rw[eg,qP rfl]at e
   refine zb.give [0,1] 1 [.eloc 0 2 (cl.length:Int) 0,.sl ptE (kN z x tol).1] [(0,.garr 191 2 (jR cl 1 (pr (p.cl=true)))),(1,.arr 28 ptE 2 p.pts)]
    [(0,.garr 191 2 (jR cl 2 (pr (p.cl=true)))),(2,.arr 28 ptE 2 (kz p.pts (kN z x tol).1))] (.tup []) (zHp cl p.pts (kN z x tol).1 (p.cl=true) oM sl oM)
    (.cons (uj (Xg (λn=>SV.eloc 0 2 n 0) hN)) (.C .nil)) rfl rfl rfl ⟨⟨_,rfl,Xg (λq=>some (Mem.garr 191 2 q)) (zsm [0,1] _ cl 1 _ _).symm,zBo rfl cl _ _⟩,⟨_,rfl,rfl,tV⟩,tV⟩ rfl ⟨⟨rfl,zBp rfl cl _ _⟩,⟨rfl,tV⟩,tV⟩ ?_
   refine wa ?_
   refine⟨(i+1,some (cl,⟨kz p.pts (kN z x tol).1,p.cl⟩)),⟨oM,oM,e,oM,?_,K⟩,
    zt [0,3] ⟨⟨_,Xg (λq=>some (Mem.garr 191 2 q)) (zsm [0,1] 3 cl 2 _ _),zau rfl⟩,rfl,tV⟩,by show l.length-(i+1)<l.length-i;omega⟩
   have:=vL (kN z x tol).1 p.pts;show(kz p.pts (kN z x tol).1).length<=_;omega
  have u:x.v=5:=Xa.1 u;have eg:zbH p x tol=(⟨qo p.pts,true⟩,0):=by unfold zbH;rw[Xe u]
  rw[eg,qP rfl]at e;refine Ob.mk hrow λy r=>?_;obtain rfl:=zp1 hN r;have hrow2:∀w:LR,0<=((jR cl 1 (pr (p.cl=true))).length:Int)-1/\((jR cl 1 (pr (p.cl=true))).length:Int)-1<((jR cl 1 (pr (p.cl=true))).set (((jR cl 1 (pr (p.cl=true))).length:Int)-1).toNat w).length:=λw=>by rw[XO];omega
  refine Ob.mk (hrow2 _) λy r=>?_;obtain rfl:=zez hN r;intro N
  have s:∀{O:St} (q:LU),qo p.pts=q->Sub O ⟨[(1,i64 tol),(6,.own 0),(27,.sl sgE l),(28,i64 l.length),(29,i64 ((i+1:Nat):Int))],[(0,.garr 191 2 (jR cl 1 (pr ((⟨qo p.pts,true⟩:Pl).cl=true)))),(1,.arr 28 ptE 2 q)],2,128,0⟩->
    ∃x',(match x' with
     |(i,none)=>i=0
     |(i,some (cl,p))=>0<i/\i<=l.length/\jr (l.take i) tol=(cl++[p],0)/\cl.length<i/\p.pts.length<=1+64*i/\∀q∈cl,q.pts.length<=20000:Prop)/\
    Sub O (match x' with
     |(i,none)=>⟨[(1,i64 tol),(6,.val (.slice none 0 0)),(27,.sl sgE l),(28,i64 l.length),(29,i64 i)],[],0,128,0⟩
     |(i,some (cl,p))=>⟨[(1,i64 tol),(6,.own 0),(27,.sl sgE l),(28,i64 l.length),(29,i64 i)],[(0,.garr 191 2 (jR cl 1 (pr (p.cl=true)))),(1,.arr 28 ptE 2 p.pts)],2,128,0⟩)/\l.length-x'.1<l.length-(i,some (cl,p)).1:=λq o R=>by
   refine⟨(i+1,some (cl,⟨qo p.pts,true⟩)),⟨oM,oM,e,oM,?_,K⟩,?_,by show l.length-(i+1)<l.length-i;omega⟩
   .have:=zsr p.pts;show(qo p.pts).length<=_;omega
   subst o;exact R
  refine wd<|Br.mk (λm=>?_) (λm=>?_)
  .have m:(1:Int)<p.pts.length:=m;refine Ob.mk (hrow2 _) λy r=>?_;obtain rfl:=zez hN r;refine wa<|wb<|wb λz d=>?_
   have d:p.pts[p.pts.length-1]?=some z:=by
    have d:p.pts[((p.pts.length:Int)-1).toNat]?=some z:=d
    rwa [show((p.pts.length:Int)-1).toNat=p.pts.length-1 by omega]at d
   refine Ob.mk (hrow2 _) λy r=>?_;obtain rfl:=zez hN r;refine wb<|wb λf(I:p.pts[0]?=some f)=>?_;refine wh<|⟨λk=>?_,λk=>?_⟩
   .have k:z=f:=qp.1 k;refine Ob.mk (hrow2 _) λy r=>?_;obtain rfl:=zez hN r;refine wa<|Sl.keep (Ob.mk ⟨rfl,oM,oM⟩ ?_);refine Ob.mk (hrow2 _) λy r=>?_;obtain rfl:=zez hN r;refine wa<|s (p.pts.take ((p.pts.length:Int)-1).toNat) ?_ ?_;rotate_left
    .exact(ze8 0 (by exact Xg (λq=>some (Mem.garr 191 2 q)) (zyc hN)) (ys:=jR cl 3 (pr ((⟨qo p.pts,true⟩:Pl).cl=true))) (Rows.app .refl (.cons (.C (.cons (zH rfl) .nil)) .nil))).trans
      (zt [0,3] ⟨⟨_,rfl,zau rfl⟩,rfl,tV⟩)
    rw[show((p.pts.length:Int)-1).toNat=p.pts.length-1 by omega];exact zhC oM d I k
   have k:¬z=f:=λh=>k (qp.2 h)
   refine wa<|s p.pts (zkn d I k) ?_
   exact((ze8 0 (by exact Xg (λq=>some (Mem.garr 191 2 q)) (zhB hN)) (ys:=jR cl 1 (pr ((⟨qo p.pts,true⟩:Pl).cl=true))) (Rows.app .refl (.cons (.C (.cons (zH rfl) .nil)) .nil))).trans
    (zt [0,1] ⟨⟨_,rfl,zau rfl⟩,rfl,tV⟩))
  have m:¬(1:Int)<p.pts.length:=m;refine wh<|wa<|s p.pts (zhD oM) ?_
  exact((ze8 0 (by exact Xg (λq=>some (Mem.garr 191 2 q)) (zhB hN)) (ys:=jR cl 1 (pr ((⟨qo p.pts,true⟩:Pl).cl=true))) (Rows.app .refl (.cons (.C (.cons (zH rfl) .nil)) .nil))).trans
   (zt [0,1] ⟨⟨_,rfl,zau rfl⟩,rfl,tV⟩))
 have hi:l.take i=l:=Xi oM;rw[hi]at H
 have hout:∀q∈cl++[p],q.pts.length<=20000:=λq o=>by
  rcases Xu.1 o with o|o
  .exact K q o
  rw[Xt.1 o];omega
 have F:(cl++[p]).length=cl.length+1:=by simp
 rw[eQ,H,qP rfl];intro hl12;refine⟨Nat,λk=>⟨[(6,.own 0),(13,i64 (jy ((cl++[p]).take k):Int)),(113,.own 0),(114,i64 ((cl++[p]).length:Int)),(115,i64 k)],[(0,.arr 191 plE 2 (cl++[p]))],1,128,0⟩,λk=>k<=(cl++[p]).length,λk=>(cl++[p]).length-k,0,?_,?_,?_⟩
 .exact Xh _
 .exact((za6 (sz0:=2) (T0:=191) 1 0 (enc:=ptE) (ys:=p.pts) rfl rfl (xs':=(cl++[p]).map plE) (by rw[zaF,Xv,F]) (λz d=>by obtain⟨w,_,rfl⟩:=XK.1 d;rfl)
   (λi j x' s' t R=>by have:=zsq (cl:=cl) (p:=p) (a:=1) [] i j x' s' (by rwa [XE]) R;rwa [XE]at this)).trans (zct 0 plE (cl++[p]) rfl (λ_ _=>rfl))).trans
   (zQ [0] ⟨rfl,rfl,rfl,iR (by rw[zaF,F]),rfl,tV⟩ ⟨rfl,tV⟩)
 rintro k J
 have Z:=zp3 hout k J;refine⟨λg:(k:Int)<(cl++[p]).length=>?_,λg:¬(k:Int)<(cl++[p]).length=>?_⟩
 .refine wb<|wb λq(o:(cl++[p])[k]?=some q)=>?_;intro hl14;have:=hout q (Xf o);(iterate 2 refine wa ?_);refine⟨k+1,oM,zQ [0] ⟨rfl,iR (by rw[zoj o];omega),rfl,rfl,rfl,tV⟩ ⟨rfl,tV⟩,oN⟩
 have J:(cl++[p]).take k=cl++[p]:=Xi oM;refine⟨λm:(4096:Int)<(jy ((cl++[p]).take k):Int)=>?_,λm:¬(4096:Int)<(jy ((cl++[p]).take k):Int)=>?_⟩
 .rw[J]at m;exact jA (Xe (show 4096<jy (cl++[p]) by omega))
 rw[J]at m;exact zBr (Xc (show¬4096<jy (cl++[p]) by omega))
def ziW(h:jN l):qo (qo l)=qo l:=by
 have:=zn0 h;generalize qo l=m at*;unfold qo;rw[Xc (λk=>this k.1 k.2)]
def zfZ(l:LX)(tol:Int):Nat->Nat->LU->Pl×Nat×Int
 |0,i,q=>(⟨q,false⟩,i,0)
 |k+1,i,q=>match l[i]? with
  |none=>(⟨q,false⟩,i,0)
  |some s=>if s.v=1 then(⟨q,false⟩,i,0) else if s.v=5 then(⟨qo q,true⟩,i+1,0)
   else if (kN (qV q) s tol).2≠0 then(⟨[],false⟩,0,(kN (qV q) s tol).2) else zfZ l tol k (i+1) (kz q (kN (qV q) s tol).1)
def zl6{l:LX}{s:Sg}(h:l[i]?=some s):zfZ l tol (l.length-i) i q=
  if s.v=1 then(⟨q,false⟩,i,0) else if s.v=5 then(⟨qo q,true⟩,i+1,0)
   else if (kN (qV q) s tol).2≠0 then(⟨[],false⟩,0,(kN (qV q) s tol).2) else zfZ l tol (l.length-(i+1)) (i+1) (kz q (kN (qV q) s tol).1):=by
 have hi:=(Xd.1 h).1;rw[show l.length-i=(l.length-(i+1))+1 by omega,zfZ,h]
def zok{l:LX}(h:l.length<=i):zfZ l tol (l.length-i) i q=(⟨q,false⟩,i,0):=by
 rw[show l.length-i=0 by omega];rfl
def SubOK(l:LX)(tol:Int)(a:Nat)(out:LZ)(r:Pl×Nat×Int):Prop:=
 (r.2.2≠0/\jr l tol=([],r.2.2))∨(r.2.2=0/\a<r.2.1/\r.2.1<=l.length/\(∀y,l[r.2.1]?=some y->y.v=1)/\jr (l.take r.2.1) tol=(out++[r.1],0)/\r.1.pts.length<=1+64*l.length)
def zl7{l:LX}{tol:Int}{a:Nat}{out:LZ}(u:oks 5 l):∀(k i:Nat) (q:LU),k=l.length-i->a<i->i<=l.length->jr (l.take i) tol=(out++[⟨q,false⟩],0)->q.length<=1+64*i->SubOK l tol a out (zfZ l tol (l.length-i) i q)
 |0,i,q,A,o,r,n,w=>by
  rw[zok oM];exact .inr ⟨rfl,o,r,λy d=>by have:=(Xd.1 d).1;dsimp only at this;omega,n,by show q.length<=_;omega⟩
 |k+1,i,q,A,o,r,n,w=>by
  have hi:i<l.length:=oM;have g:l[i]?=some l[i]:=Xb hi;have e:=zag (tol:=tol) g;rw[n]at e;rw[zl6 g];generalize l[i]=s at*
  by_cases v1:s.v=1
  .rw[Xe v1];exact .inr ⟨rfl,o,r,λy d=>by have d:l[i]?=some y:=d;rw[g]at d;rw[←Xl d];exact v1,n,by show q.length<=_;omega⟩
  rw[Xc v1];rw[zss v1]at e
  by_cases m:s.v=5
  .rw[Xe m];have eg:zbH ⟨q,false⟩ s tol=(⟨qo q,true⟩,0):=by unfold zbH;rw[Xe m]
   rw[eg,qP rfl]at e;refine .inr ⟨rfl,by show a<i+1;omega,by show i+1<=_;omega,λy d=>?_,e,?_⟩
   .have t:=zuq u d;have B:zr6 5 l (i+1)=s.v:=zlP g;dsimp only at t;rw[B,m]at t;exact(u7.1 t).2.1.resolve_right λh=>h.1 rfl
   have:=zsr q;show(qo q).length<=_;omega
  rw[Xc m];have eg:zbH ⟨q,false⟩ s tol=if (kN (qV q) s tol).2≠0 then(⟨q,false⟩,(kN (qV q) s tol).2) else(⟨kz q (kN (qV q) s tol).1,false⟩,0):=by unfold zbH;rw[Xc m]
  by_cases j:(kN (qV q) s tol).2=0
  .rw[qP j]at eg ⊢;rw[eg,qP rfl]at e;have C:=vL (kN (qV q) s tol).1 q;have D:=zp2 (qV q) s tol;exact zl7 u k (i+1) _ oM oM oM e oM
  rw[Xe j]at eg ⊢;rw[eg,Xe j]at e;have:=zn1 g (by rw[e];exact j);rw[e]at this;exact .inl ⟨j,this⟩
def zHr{p:Pt}{s:Sg}(h:(kN p s tol).2=0):(kN p s tol).1≠[]:=by
 have up:∀(f:Int->Pt) (n:Nat),1<=n->zcG f n≠[]:=λf n j e=>by
  have:=zaE f n;rw[e]at this;simp at this;omega
 unfold kN at h ⊢
 by_cases d:s.v=3
 .rw[Xe d]at h ⊢;have k:(j9 p s.a s.b tol).2=0:=Xa.1 λk=>k (by rw[ziS k]at h;exact h)
  have ok:=(yX (show(k8 _ tol _).2=0 from k)).1;have ok:1<=(j9 p s.a s.b tol).1/\(j9 p s.a s.b tol).1<=64:=ok;rw[zl4 k];dsimp only;exact up _ _ (show 1<=(j9 p s.a s.b tol).1.toNat by omega)
 rw[Xc d]at h ⊢
 by_cases g:s.v=4
 .rw[Xe g]at h ⊢;have k:(ya p s.a s.b s.c tol).2=0:=Xa.1 λk=>k (by rw[ziU k]at h;exact h)
  have ok:=(yX (show(k8 _ tol _).2=0 from k)).1;have ok:1<=(ya p s.a s.b s.c tol).1/\(ya p s.a s.b s.c tol).1<=64:=ok;rw[zl5 k];dsimp only;exact up _ _ (show 1<=(ya p s.a s.b s.c tol).1.toNat by omega)
 rw[Xc g];simp
def subE(r:Pl×Nat×Int):SV:=.tup [wv r.1,i64 (r.2.1:Int),i64 r.2.2]
def zuw{q more:LU}{z:Pt}(h:more[more.length-1]?=some z):qV (kz q more)=z:=by
 have a:more≠[]:=λe=>by rw[e]at h;simp at h
 unfold qV;rw[Je,znZ more q a,K9,h];rfl
def zyd(l:LX)(a:Nat)(x:Sg)(tol:Int)(F:l[a]?=some x)(E:l.length<=300):
  CX 224 [.sl sgE l,i64 a,i64 tol] (subE (zfZ l tol (l.length-(a+1)) (a+1) [x.a])):=by
 have U:=(Xd.1 F).1;refine yJ 1 tok mix func224 rfl rfl rfl<|wb5 λx' y=>?_;have ex:x'=x:=Xl ((show l[a]?=some x' from y).symm.trans F);rw[ex];refine⟨Pt,ptE,[x.a],rfl,wb0 ?_⟩;refine wa ?_;generalize hR:zfZ l tol (l.length-(a+1)) (a+1) [x.a]=R
 refine⟨Nat×LU,λs=>⟨[(0,.sl sgE l),(2,i64 tol),(6,.loc 0 0),(9,.loc 1 0),(10,.loc 2 0),(11,i64 (s.1:Int))],
   [(0,.box 191 [nS,.val (.bool false)]),(1,.box 28 (ptE (qV s.2))),(2,.box 191 [.own 3,.val (.bool false)]),(3,.arr 28 ptE 2 s.2)],4,102,0⟩,
  λs=>a<s.1/\s.1<=l.length/\zfZ l tol (l.length-s.1) s.1 s.2=R/\jN s.2/\s.2≠[]/\s.2.length<=1+64*s.1,λs=>l.length-s.1,(a+1,[x.a]),?_,?_,?_⟩
 .exact⟨oN,oN,hR,⟨λ_ h=>(by cases h),tV⟩,sI,by show 1<=_;omega⟩
 .exact zQ [0,1,3,2] ⟨rfl,rfl,rfl,rfl,rfl,iR (show((a+1:Nat):Int)=(a:Int)+1 by omega).symm,tV⟩ ⟨rfl,rfl,rfl,rfl,tV⟩
 rintro⟨i,q⟩ ⟨I,J,j,u,w,K⟩
 dsimp only at I J j u w K;have Q:0<q.length:=Ki λh=>w (Xq h)
 have out:(l.length<=i∨∃s,l[i]?=some s/\s.v=1)->R=(⟨q,false⟩,i,0):=λh=>by
  rw[←j]
  rcases h with h|⟨s,o,S⟩
  .exact zok h
  rw[zl6 o,Xe S]
 have r:R=(⟨q,false⟩,i,0)->LE (.tup [.agg [.sl ptE q,bl false],i64 i,i64 0]) (subE R):=λh=>by
  rw[h];exact zaQ (.cons (jk (.C (.cons (zd (show¬(false=true) by decide)) .nil))) (.C (.C .nil)))
 intro L;refine⟨λg=>?_,λg=>?_⟩;rotate_left
 .have g:¬(i:Int)<l.length:=g;exact r (out (.inl oM))
 have g:(i:Int)<l.length:=g;refine wb λs(o:l[i]?=some s)=>?_;refine⟨λv1=>?_,λv1=>?_⟩;rotate_left
 .have v1:s.v=1:=Xa.1 v1;exact r (out (.inr ⟨s,o,v1⟩))
 have v1:¬s.v=1:=v1;rw[zl6 o,Xc v1]at j;refine wb λs' n=>?_;have t:s'=s:=Xl ((show l[i]?=some s' from n).symm.trans o);rw[t];refine⟨λA:s.v=5=>?_,λA:¬s.v=5=>?_⟩
 .rw[Xe A]at j
  refine⟨LU,λd=>⟨[(6,.loc 0 0),(10,.loc 2 0),(11,i64 i)],
    [(0,.box 191 [nS,.val (.bool false)]),(2,.box 191 [.own 3,.val (.bool true)]),(3,.arr 28 ptE 2 d)],4,102,0⟩,
   λd=>qo d=qo q/\jN d/\d.length<=q.length,λd=>d.length,q,?_,?_,?_⟩
  .exact⟨rfl,u,Xj _⟩
  .exact zB [(0,some 0),(2,some 2),(3,some 3)]
  rintro d ⟨G,H,V⟩
  have fin2:qo d=d->LE (.tup [.agg [.sl ptE d,bl true],i64 ((i:Int)+1),i64 0]) (subE R):=λh=>by
   rw[←j,←G,h];exact zaQ (.cons (jk (.C (.cons (zH rfl) .nil))) (.cons (ze (show(i:Int)+1=((i+1:Nat):Int) by omega)) (.C .nil)))
  refine wd λM=>?_;refine⟨λm:(1:Int)<d.length=>?_,λm:¬(1:Int)<d.length=>?_⟩
  .intro N;refine wa<|wb<|wb λz e=>?_
   have e:d[d.length-1]?=some z:=by
    have e:d[((d.length:Int)-1).toNat]?=some z:=e
    rwa [show((d.length:Int)-1).toNat=d.length-1 by omega]at e
   refine wb<|wb λf(D:d[0]?=some f)=>?_;refine wh<|⟨λk=>?_,λk=>?_⟩
   .have k:z=f:=qp.1 k;have B:=zhC (show 1<d.length by omega) e D k;intro O;refine wa<|Sl.keep (Ob.mk ⟨rfl,oM,oM⟩ ?_);refine⟨d.take (d.length-1),⟨?_,?_,?_⟩,zdI [(0,some 0),(2,some 2),(3,some 4)] ⟨rfl,rfl,aR (by rw[show((d.length:Int)-1).toNat=d.length-1 by omega]),tV⟩,?_⟩
    .rw[←B,ziW H,G]
    .rw[←B];exact zbI H
    .rw[Xp];omega
    show(d.take (d.length-1)).length<d.length;rw[Xp];omega
   have k:¬z=f:=λh=>k (qp.2 h)
   exact wa<|fin2 (zkn e D k)
  exact wh<|wa<|fin2 (zhD oM)
 rw[Xc A]at j;refine wd<|wb λs' n=>?_;have t:s'=s:=Xl ((show l[i]?=some s' from n).symm.trans o);rw[t];refine wg (r_seg (qV q) s tol)<|wh<|⟨λk=>?_,λk=>?_⟩
 .have k:¬(kN (qV q) s tol).2=0:=k;rw[Xe k]at j;rw[←j];exact zaQ (.cons (jk (.cons zD (.cons (zd (show¬(false=true) by decide)) .nil))) (.C (.C .nil)))
 have k:(kN (qV q) s tol).2=0:=Xa.1 k;rw[qP k]at j;have sl:=zp2 (qV q) s tol;have sn:=zHr k;have T:0<(kN (qV q) s tol).1.length:=Ki λh=>sn (Xq h)
 have pl:=vL (kN (qV q) s tol).1 q
 refine zb.give [3] 1 [.own 0,.sl ptE (kN (qV q) s tol).1] [(0,.arr 28 ptE 2 q)] [(1,.arr 28 ptE 2 (kz q (kN (qV q) s tol).1))] (.own 1) (zHq q (kN (qV q) s tol).1 oM sl)
  LEs.refl rfl rfl rfl ⟨⟨_,rfl,rfl,tV⟩,tV⟩ rfl ⟨⟨rfl,tV⟩,tV⟩ ?_
 intro P;refine wa<|wb λz e=>?_
 have e:(kN (qV q) s tol).1[(kN (qV q) s tol).1.length-1]?=some z:=by
  have e:(kN (qV q) s tol).1[(((kN (qV q) s tol).1.length:Int)-1).toNat]?=some z:=e
  rwa [show(((kN (qV q) s tol).1.length:Int)-1).toNat=(kN (qV q) s tol).1.length-1 by omega]at e
 have elp:=zuw (q:=q) e;refine wa ?_
 refine⟨(i+1,kz q (kN (qV q) s tol).1),⟨oN,oN,j,zgp _ u,zpR _ w,oN⟩,
  zt [0,1,2,4] ⟨rfl,?_,rfl,rfl,tV⟩,oN⟩
 exact bR ptE elp.symm
def zBt(l:LX)(tol:Int):CX 155 [.sl sgE l,i64 tol] (zp4 (zY l tol)):=by
 refine zc func155<|wg (zhl l)<|⟨λr=>jA (by unfold zY;rw[Xe r]),λr=>?_⟩;have n:=Xa.1 r;have B:=ziI n;have J:=(zbh.1 n).2;refine wg (zBa tol)<|⟨λt=>jA (by unfold zY;rw[kI n,Xe t]),λt=>?_⟩;have ht:=Xa.1 t;have eQ:zY l tol=if (jr l tol).2≠0 then([],(jr l tol).2) else if 4096<jy (jr l tol).1 then([],5) else((jr l tol).1,0):=by unfold zY;rw[kI n,kI ht]
 refine⟨Pl,plE,[],rfl,wb2 ?_⟩
 refine⟨Nat×LZ,λs=>⟨[(0,.sl sgE l),(1,i64 tol),(6,.own 0),(7,i64 (jy s.2:Int)),(8,i64 (s.1:Int))],[(0,.arr 191 plE 2 s.2)],1,47,0⟩,
  λs=>s.1<=l.length/\jr (l.take s.1) tol=(s.2,0)/\(∀y,l[s.1]?=some y->y.v=1)/\s.2.length<=s.1/\∀q∈s.2,q.pts.length<=20000,λs=>l.length-s.1,(0,[]),?_,?_,?_⟩
 .exact⟨Xh _,rfl,λy K=>zjG n y K,Xh _,λq d=>by cases d⟩
 .exact zf [0]
 rintro⟨i,out⟩ ⟨F,o,A,G,u⟩
 dsimp only at F o A G u;have H:=zp3 u out.length (Xj _);rw[Kc]at H;intro I;refine⟨λg:(i:Int)<l.length=>?_,λg:¬(i:Int)<l.length=>?_⟩
 .obtain⟨x,w⟩:∃x,l[i]?=some x:=⟨_,Xb oM⟩;have v1:=A x w;have e:=zag (tol:=tol) w;rw[o,zhu,Xe v1]at e;have sp:=zl7 (a:=i) J (l.length-(i+1)) (i+1) [x.a] rfl oM oM e (by show 1<=_;omega);refine wg (zyd l i x tol w oM) ?_;generalize zfZ l tol (l.length-(i+1)) (i+1) [x.a]=R at*;obtain⟨p,j,er⟩:=R;refine⟨λk=>?_,λk=>?_⟩
  .have k:¬er=0:=k
   obtain⟨_,sp⟩|⟨sp,_⟩:=sp
   .refine jA ?_;dsimp only at sp;rw[eQ,sp,Xe k]
   exact absurd sp k
  have k:er=0:=Xa.1 k
  obtain⟨sp,_⟩|⟨_,s1,C,D,E,L⟩:=sp
  .exact absurd k sp
  dsimp only at s1 C D E L;intro h;have h:p.pts.length<=9223372036854775807:=h;refine Ar.fit (by show _<=(jy out:Int)+(p.pts.length:Int)/\(jy out:Int)+(p.pts.length:Int)<=_;omega)<|⟨Pl,plE,[p],rfl,wb0 ?_⟩;refine⟨[p],rfl,Ob.mk ⟨(by show _*(32:Int)<=_;simp only[Xm,Xo];omega),(by simp only[Xm,Xo];omega),dC,λ_ _=>rfl⟩ ?_⟩
  refine⟨(j,out++[p]),⟨C,E,D,by simp only[Xr,Xm,Xo];omega,λq d=>?_⟩,
   zQ [3] ⟨rfl,rfl,rfl,iR (show(jy out:Int)+(p.pts.length:Int)=(jy (out++[p]):Int) by unfold jy;simp),rfl,tV⟩ ⟨rfl,tV⟩,oN⟩
  rcases Xu.1 d with d|d
  .exact u q d
  rw[Xt.1 d];omega
 rw[Xi oM]at o;rw[eQ,o,qP rfl];refine⟨λm:(4096:Int)<(jy out:Int)=>?_,λm:¬(4096:Int)<(jy out:Int)=>?_⟩
 .exact jA (Xe (show 4096<jy out by omega))
 exact zBr (Xc (show¬4096<jy out by omega))
def zgw:∀(l A:LU) (p:Pt),kz (A++[p]) l=A++jc (p::l)
 |[],A,p=>rfl
 |x::r,A,p=>by
  have e:kz (A++[p]) (x::r)=kz (y8 (A++[p]) x) r:=rfl;rw[e];unfold y8;rw[JR];have d:jc (p::x::r)=if p=x then jc (x::r) else p::jc (x::r):=rfl
  rw[d]
  by_cases c:p=x
  .subst c;rw[Xe rfl,Xe rfl];exact zgw r A p
  rw[Xc (λk=>c (Xl k)),Xc c,zgw r (A++[p]) x,XL];rfl
def zst(l:LU):kz [] l=jc l:=by
 cases l with
 |nil=>rfl
 |cons p r=>exact zgw r [] p
def dd(xs:LU)(i:Nat):LU:=kz [] (xs.take i)
variable{xs:LU}{x:Pt}
def zhE(h:xs[i]?=some x):dd xs (i+1)=y8 (dd xs i) x:=by
 unfold dd;exact ziV h
def zHs(xs:LU)(i:Nat):(dd xs i).length<=i:=by
 unfold dd;have:=vL (xs.take i) [];rw[Xp]at this;simp at this;omega
def zux{xs:LU}{i:Nat}(h:xs.length<=i):dd xs i=jc xs:=by
 unfold dd;rw[Xi h,zst]
def zwe(h:xs[i]?=some z):(dd xs (i+1)).getLast?=some z:=by
 rw[zhE h];exact zr5 _ _
def zHt(h:xs[0]?=some x):dd xs 1=xs.take 1:=by
 rw[zhE h,Xn,h];rfl
def zp5(d:xs[i]?=some z)(a:xs[i+1]?=some x)(e:z=x):dd xs (i+2)=dd xs (i+1):=by
 rw[zhE a];unfold y8;rw[zwe d,e,Xe rfl]
def zl8(d:xs[i]?=some z)(a:xs[i+1]?=some x)(e:¬z=x):dd xs (i+2)=dd xs (i+1)++[x]:=by
 rw[zhE a];unfold y8;rw[zwe d,Xc (λk=>e (Xl k))]
def zEf(h:xs[i]?=some x):xs.take (i+1)=xs.take i++[x]:=by
 rw[Xn,h];rfl
def zye(xs:LU)(W:xs.length<=4096):CG0 313 [.own 0] [(0,.arr 28 ptE 2 xs)] (.sl ptE (jc xs)) []:=by
 refine zjN 1 tok mix func313 rfl rfl rfl λQ=>?_;refine⟨λg:(xs.length:Int)<2=>?_,λg:¬(xs.length:Int)<2=>?_⟩
 .refine z6 ?_
  match xs,g with
  |[],_=>rfl
  |[p],_=>rfl
  |_::_::_,g=>exact absurd g (by simp only[Xm];omega)
 refine⟨Nat,λi=>⟨[(0,.own 0),(3,i64 ((i:Int)+1))],[(0,.arr 28 ptE 2 xs)],1,61,1⟩,λi=>i+1<=xs.length/\dd xs (i+1)=xs.take (i+1),λi=>xs.length-i,0,?_,?_,?_⟩
 .exact⟨oM,zHt (Xb oM)⟩
 .exact zf [0]
 rintro i ⟨V,D⟩
 intro R;refine⟨λa=>?_,λa=>?_⟩;rotate_left
 .have a:¬(i:Int)+1<xs.length:=a;refine z6 ?_;rw[←zux (i:=i+1) oM,D,Xi oM]
 have a:(i:Int)+1<xs.length:=a;refine wc<|Ob.mk ⟨oM,a⟩<|Ob.mk ⟨oM,a⟩ λx J=>?_
 have o:xs[i+1]?=some x:=by
  have h:xs[((i:Int)+1).toNat]?=some x:=J
  rwa [show((i:Int)+1).toNat=i+1 by omega]at h
 refine wa<|wb5<|wb5 λz L=>?_
 have B:xs[i]?=some z:=by
  have h:xs[((i:Int)+1-1).toNat]?=some z:=L
  rwa [show((i:Int)+1-1).toNat=i by omega]at h
 refine⟨λk=>?_,λk=>?_⟩;rotate_left
 .have k:¬z=x:=λh=>k (qp.2 h.symm)
  refine wa<|⟨i+1,⟨oM,?_⟩,zQ [0] ⟨rfl,iR oM,tV⟩ ⟨rfl,tV⟩,oN⟩;rw[zl8 B o k,D,zEf o]
 have k:z=x:=(qp.1 k).symm;refine Sl.win (Ob.mk ⟨oM,oM,oM,oM⟩ ?_)
 refine⟨Nat×Nat×LU,λs=>⟨[(0,.own 0),(3,i64 (s.2.1:Int)),(4,.win 0 2 ((i:Int)+1) ((xs.length:Int)-((i:Int)+1))),(5,i64 ((s.1:Int)+1))],[(0,.arr 28 ptE 2 s.2.2)],1,61,1⟩,
  λs=>i+1+s.1<xs.length/\s.2.2.length=xs.length/\s.2.2.take s.2.1=dd xs (i+s.1+2)/\s.2.1=(dd xs (i+s.1+2)).length/\s.2.1<=i+1+s.1/\∀j,i+1+s.1<=j->s.2.2[j]?=xs[j]?,λs=>xs.length-s.1,(0,i+1,xs),?_,?_,?_⟩
 .have e:=zp5 B o k;refine⟨oN,rfl,?_,?_,oN,λj _=>rfl⟩
  .show xs.take (i+1)=dd xs (i+0+2);rw[show i+0+2=i+2 from rfl,e,D]
  show i+1=(dd xs (i+0+2)).length;rw[show i+0+2=i+2 from rfl,e,D,Xp];omega
 .exact zQ [0] ⟨rfl,iR (show((i+1:Nat):Int)=(i:Int)+1 by omega).symm,rfl,rfl,tV⟩ ⟨rfl,tV⟩
 rintro⟨m,q,A⟩ ⟨T,M,F,N,U,C⟩
 dsimp only at T M F N U C;refine wb<|Br.mk (λn=>?_) (λn=>?_)
 .have n:(m:Int)+1<(xs.length:Int)-((i:Int)+1):=n;refine wc<|Ob.mk ⟨by ((try dsimp only);omega),by ((try dsimp only);omega),n⟩<|wb11 λy K=>?_
  have v:A[i+m+2]?=some y:=by
   have h:A[((i:Int)+1+((m:Int)+1)).toNat]?=some y:=K
   rwa [show((i:Int)+1+((m:Int)+1)).toNat=i+m+2 by omega]at h
  have w:xs[i+m+2]?=some y:=by rw[←C _ oM];exact v
  refine wa<|wb23<|wb11 λu H=>?_
  have I:A[i+m+1]?=some u:=by
   have h:A[((i:Int)+1+((m:Int)+1-1)).toNat]?=some u:=H
   rwa [show((i:Int)+1+((m:Int)+1-1)).toNat=i+m+1 by omega]at h
  have r:xs[i+m+1]?=some u:=by rw[←C _ oM];exact I
  refine⟨λd=>?_,λd=>?_⟩
  .have d:¬u=y:=λh=>d (qp.2 h.symm)
   have e:=zl8 r w d;refine Ob.mk ⟨by ((try dsimp only);omega),by ((try dsimp only);omega),n⟩<|wb11 λO hy''=>?_
   have ey:O=y:=by
    have h:A[((i:Int)+1+((m:Int)+1)).toNat]?=some O:=hy'';rw[show((i:Int)+1+((m:Int)+1)).toNat=i+m+2 by omega,v]at h;exact(Xl h).symm
   rw[ey];refine wb11<|wb11 λt _=>?_;refine⟨y,rfl,?_⟩;refine Ar.fit (by (try dsimp only);omega)<|wa ?_;have G:((q:Int)).toNat=q:=XU q
   refine⟨(m+1,q+1,A.set q y),⟨oN,by rw[XO];exact M,?_,?_,oN,λj E=>?_⟩,
    zQ [0] ⟨rfl,iR (by (try dsimp only);omega),rfl,iR (by (try dsimp only);omega),tV⟩ ⟨aR (by rw[G]),tV⟩,oN⟩
   .show(A.set q y).take (q+1)=dd xs (i+m+1+2);rw[e,←F];have S:q<(A.set q y).length:=by rw[XO];omega
    rw[Xn,Jg (Xj q),List.getElem?_set_self oM];rfl
   .show q+1=(dd xs (i+m+1+2)).length;rw[e,Xr,←N];rfl
   show(A.set q y)[j]?=xs[j]?;have E:i+1+(m+1)<=j:=E;rw[List.getElem?_set_ne oM];exact C j oM
  have d:u=y:=(qp.1 (Xa.1 d)).symm;have e:=zp5 r w d;refine wa ?_
  refine⟨(m+1,q,A),⟨oN,M,?_,?_,oN,λj E=>C j (by dsimp only at E;omega)⟩,
   zQ [0] ⟨rfl,rfl,rfl,iR oM,tV⟩ ⟨rfl,tV⟩,oN⟩
  .show A.take q=dd xs (i+m+1+2);rw[e];exact F
  show q=(dd xs (i+m+1+2)).length;rw[e];exact N
 have n:¬(m:Int)+1<(xs.length:Int)-((i:Int)+1):=n;refine Sl.win (Ob.mk ⟨by ((try dsimp only);omega),by ((try dsimp only);omega),by ((try dsimp only);omega),by ((try dsimp only);omega)⟩ ?_);refine⟨zp,rfl,wb23 ?_⟩;have G:((q:Int)).toNat=q:=XU q
 have P:(A.take (q:Int).toNat++(List.replicate ((A.length:Int)-(q:Int)).toNat zp++A.drop ((q:Int).toNat+((A.length:Int)-(q:Int)).toNat))).length=A.length:=by
  simp only[Xr,Xp,Ks,KG];omega
 refine Sl.keep (Ob.mk ⟨rfl,by ((try dsimp only);omega),by ((try dsimp only);rw[P];omega)⟩ ?_);refine z6 ?_;dsimp only;rw[←zux (i:=i+m+2) oM,←F,G,KO (by rw[Xp];omega),Xi (by rw[Xp];omega)]
def zgx(h:p.cl=true):(zw p).pts=qo (jc p.pts):=by unfold zw;dsimp only;rw[Xe h]
def zl9(h:¬p.cl=true):(zw p).pts=jc p.pts:=by unfold zw;dsimp only;rw[Xc h]
def ziX(l:LU):(jc l).length<=l.length:=by
 rw[←zst];have:=vL l []
 simpa using this
def zp6(h:(zw p).pts=q):LE (.agg [.sl ptE q,pr (p.cl=true)]) (wv (zw p)):=by
 subst h;exact .refl
def zhF(p:Pl)(j:p.pts.length<=4096):CX 249 [wv p] (wv (zw p)):=by
 refine zc func249<|zb.fresh _ _ (zpN p.pts j) rfl (λ_ _=>rfl) (.inr (λ_ _=>rfl))<|zb.give [2] 0 [.own 0] [(0,.arr 28 ptE 2 p.pts)] [] (.sl ptE (jc p.pts)) (zye p.pts j) LEs.refl rfl rfl rfl ⟨⟨_,rfl,rfl,tV⟩,tV⟩ rfl trivial ?_;have v:=ziX p.pts
 refine⟨LU,λq=>⟨[(1,.loc 0 0),(2,.loc 1 0),(3,.sl ptE q)],[(0,.box 191 [.sl ptE p.pts,pr (p.cl=true)]),(1,.box 191 [nS,.val (.bool false)])],2,36,0⟩,
  λq=>qo q=qo (jc p.pts)/\jN q/\q.length<=4096/\(¬p.cl=true->q=jc p.pts),λq=>q.length,jc p.pts,?_,?_,?_⟩
 .exact⟨rfl,un _,oM,λ_=>rfl⟩
 .exact zf [0,1]
 rintro q ⟨n,o,w,u⟩
 refine wc<|Br.mk (λc=>?_) (λc=>?_);rotate_left
 .have c:¬p.cl=true:=c;exact zp6 (by rw[zl9 c,u c])
 have c:p.cl=true:=c;have d:qo q=q->LE (.agg [.sl ptE q,pr (p.cl=true)]) (wv (zw p)):=λh=>zp6 (by rw[zgx c,←n,h])
 intro r;refine⟨λm=>?_,λm=>?_⟩;rotate_left
 .have m:¬(1:Int)<q.length:=m;exact d (zhD oM)
 have m:(1:Int)<q.length:=m;intro s;refine wa<|wb λz a=>?_
 have a:q[q.length-1]?=some z:=by
  have a:q[((q.length:Int)-1).toNat]?=some z:=a
  rwa [show((q.length:Int)-1).toNat=q.length-1 by omega]at a
 refine wb λf(g:q[0]?=some f)=>?_;refine⟨λk=>?_,λk=>?_⟩
 .have k:z=f:=qp.1 k;have e:=zhC (show 1<q.length by omega) a g k;intro t;refine wa<|Ob.mk ⟨⟨dC,oM,oM,oM⟩,λ_ _=>rfl⟩<|⟨q.take (q.length-1),⟨?_,?_,?_,λh=>absurd c h⟩,zQ [0,1] ⟨rfl,rfl,Xg (λq=>some (SV.sl ptE q)) (by rw[show((q.length:Int)-1-0).toNat=q.length-1 by omega];rfl),tV⟩ ⟨rfl,rfl,tV⟩,?_⟩
  .rw[←e,ziW o,n]
  .rw[←e];exact zbI o
  .rw[Xp];omega
  show(q.take (q.length-1)).length<q.length;rw[Xp];omega
 have k:¬z=f:=λh=>k (qp.2 h)
 exact d (zkn a g k)
def zko(p:Pl)(E:p.pts.length<=4096):CX 232 [wv p] (wv (zw p)):=by
 refine yJ 1 tok mix func232 rfl rfl rfl<|⟨Pt,ptE,[],rfl,wb2 ?_⟩
 refine⟨Nat,λi=>⟨[(1,.loc 0 0),(2,.loc 1 0),(3,.loc 2 0),(4,i64 i)],
   [(0,.box 191 [.sl ptE p.pts,pr (p.cl=true)]),(1,.box 191 [nS,.val (.bool false)]),(2,.box 191 [.own 3,pr (p.cl=true)]),(3,.arr 28 ptE 2 (dd p.pts i))],4,74,0⟩,
  λi=>i<=p.pts.length,λi=>p.pts.length-i,0,?_,?_,?_⟩
 .exact Xh _
 .exact zf [0,1,3,2]
 rintro i hi
 have dl:=zHs p.pts i;intro r;refine⟨λg:(i:Int)<p.pts.length=>?_,λg:¬(i:Int)<p.pts.length=>?_⟩
 .obtain⟨x,o⟩:∃x,p.pts[i]?=some x:=⟨_,Xb oM⟩;have same:∀{y:Pt},p.pts[(i:Int).toNat]?=some y->y=x:=λh=>Xl ((show p.pts[i]?=some _ from h).symm.trans o)
  refine wd<|Br.mk (λz=>?_) (λz=>?_)
  .have z:(i:Int)=0:=z;refine wh<|wd<|wb λy e=>?_;rw[same e];refine⟨Pt,ptE,[x],rfl,wb0 ?_⟩;refine⟨[x],rfl,wb4 ?_⟩;refine wh<|wa ?_;have i0:i=0:=oM;subst i0;refine⟨1,oM,zt [0,1,2,5] ⟨rfl,rfl,rfl,aR ?_,tV⟩,oN⟩;rw[zhE o];rfl
  have z:¬(i:Int)=0:=z;obtain⟨n,rfl⟩:∃n,i=n+1:=⟨i-1,oM⟩;refine wb λy e=>?_;rw[same e];refine wa<|wb λu j=>?_
  have j:p.pts[n]?=some u:=by
   have h:p.pts[(((n+1:Nat):Int)-1).toNat]?=some u:=j
   rwa [show(((n+1:Nat):Int)-1).toNat=n by omega]at h
  refine wh<|⟨λk=>?_,λk=>?_⟩
  .have k:¬u=x:=λh=>k (qp.2 h.symm)
   refine wd<|wb λy e=>?_;rw[same e];refine⟨Pt,ptE,[x],rfl,wb0 ?_⟩;refine⟨[x],rfl,wb4 ?_⟩;refine wh<|wa<|⟨n+2,oM,zQ [0,1,2,5] ⟨rfl,rfl,rfl,iR oM,tV⟩ ⟨rfl,rfl,rfl,aR ?_,tV⟩,oN⟩;rw[zl8 j o k]
  have k:u=x:=(qp.1 (Xa.1 k)).symm;refine wa<|⟨n+2,oM,zQ [0,1,2,3] ⟨rfl,rfl,rfl,iR oM,tV⟩ ⟨rfl,rfl,rfl,aR ?_,tV⟩,oN⟩;rw[zp5 j o k]
 have D:=ziX p.pts
 refine⟨LU,λq=>⟨[(1,.loc 0 0),(2,.loc 1 0),(3,.loc 2 0)],
   [(0,.box 191 [.sl ptE p.pts,pr (p.cl=true)]),(1,.box 191 [nS,.val (.bool false)]),(2,.box 191 [.own 3,pr (p.cl=true)]),(3,.arr 28 ptE 2 q)],4,74,0⟩,
  λq=>qo q=qo (jc p.pts)/\jN q/\q.length<=4096/\(¬p.cl=true->q=jc p.pts),λq=>q.length,jc p.pts,?_,?_,?_⟩
 .exact⟨rfl,un _,oM,λ_=>rfl⟩
 .exact zt [0,1,2,3] ⟨rfl,rfl,rfl,aR (zux oM),tV⟩
 rintro q ⟨v,w,F,C⟩
 refine wd<|Br.mk (λc=>?_) (λc=>?_);rotate_left
 .have c:¬p.cl=true:=c;exact wh<|zp6 (by rw[zl9 c,C c])
 have c:p.cl=true:=c;have d:qo q=q->LE (.agg [.sl ptE q,pr (p.cl=true)]) (wv (zw p)):=λh=>zp6 (by rw[zgx c,←v,h])
 intro r;refine⟨λm=>?_,λm=>?_⟩;rotate_left
 .have m:¬(1:Int)<q.length:=m;exact wh<|d (zhD oM)
 have m:(1:Int)<q.length:=m;intro A;refine wa<|wb<|wb λz a=>?_
 have a:q[q.length-1]?=some z:=by
  have a:q[((q.length:Int)-1).toNat]?=some z:=a
  rwa [show((q.length:Int)-1).toNat=q.length-1 by omega]at a
 refine wb<|wb λf(t:q[0]?=some f)=>?_;refine wh<|⟨λk=>?_,λk=>?_⟩
 .have k:z=f:=qp.1 k;have s:=zhC (show 1<q.length by omega) a t k;intro B;refine wa<|Sl.keep (Ob.mk ⟨rfl,oM,oM⟩ ?_);refine⟨q.take (q.length-1),⟨?_,?_,?_,λh=>absurd c h⟩,zt [0,1,2,4] ⟨rfl,rfl,rfl,aR (by rw[show((q.length:Int)-1).toNat=q.length-1 by omega]),tV⟩,?_⟩
  .rw[←s,ziW w,v]
  .rw[←s];exact zbI w
  .rw[Xp];omega
  show(q.take (q.length-1)).length<q.length;rw[Xp];omega
 have k:¬z=f:=λh=>k (qp.2 h)
 exact d (zkn a t k)
def zFX(a b:Pt)(p:Pen):CX 378 [ws p,wk a,wk b] (.sl ptE (uc a b p)):=by
 refine zc func378<|Br.mk (λh=>?_) (λh=>?_)
 .have h:p.c=5:=h;exact wg (p_cap a b p.w)<|z6 (by unfold uc;rw[Xe h])
 have h:¬p.c=5:=h;refine⟨λk:p.c=3=>?_,λk:¬p.c=3=>?_⟩
 .exact wg (zuo b p.w)<|z6 (by unfold uc;rw[Xc h,Xe k])
 have e:uc a b p=[]:=by unfold uc;rw[Xc h,Xc k]
 rw[e];exact zD
def zBu(a:Pt)(p:Pen):CX 374 [wk a,ws p] (.sl ptE (zbE a p)):=by
 refine zc func374<|Br.mk (λh=>?_) (λh=>?_)
 .have h:p.c=5:=h;exact wg (zHa a p.w)<|z6 (by unfold zbE;rw[Xe h])
 have h:¬p.c=5:=h;refine⟨λk:p.c=3=>?_,λk:¬p.c=3=>?_⟩
 .exact wg (zuo a p.w)<|z6 (by unfold zbE;rw[Xc h,Xe k])
 have e:zbE a p=[]:=by unfold zbE;rw[Xc h,Xc k]
 rw[e];exact zD
def zBv(a b:Pt)(p:Pen):CX 355 [wk a,wk b,ws p] (.sl ptE (uc a b p)):=by
 refine zc func355<|Br.mk (λh=>?_) (λh=>?_)
 .have h:p.c=5:=h;exact wg (r_cap a b p.w)<|z6 (by unfold uc;rw[Xe h])
 have h:¬p.c=5:=h;refine⟨λk:p.c=3=>?_,λk:¬p.c=3=>?_⟩
 .exact wg (zun b p.w)<|z6 (by unfold uc;rw[Xc h,Xe k])
 have e:uc a b p=[]:=by unfold uc;rw[Xc h,Xc k]
 rw[e];exact zD
def zBw(a:Pt)(p:Pen):CX 354 [wk a,ws p] (.sl ptE (zbE a p)):=by
 refine zc func354<|Br.mk (λh=>?_) (λh=>?_)
 .have h:p.c=5:=h;exact wg (zHb a p.w)<|z6 (by unfold zbE;rw[Xe h])
 have h:¬p.c=5:=h;refine⟨λk:p.c=3=>?_,λk:¬p.c=3=>?_⟩
 .exact wg (zun a p.w)<|z6 (by unfold zbE;rw[Xc h,Xe k])
 have e:zbE a p=[]:=by unfold zbE;rw[Xc h,Xc k]
 rw[e];exact zD
def qx{j:Nat}(h:l[j]?=some x):x=nth l j:=by
 unfold nth;rw[Xs,h];rfl
def zuy(l:LU)(i:Int)(j:Nat)(h:0<l.length/\l.length<=4096)(hi: -1<=i/\i<=l.length)(d:((i+l.length)%l.length).toNat=j):
  CX 375 [i64 i,.ptr [.sl ptE l],.ptr [i64 l.length]] (wk (nth l j)):=by
 refine zc func375 ?_;have e:=Kj (i+l.length) (show(l.length:Int)≠0 by omega);have g:=Kg (i+l.length) (show 0<(l.length:Int) by omega);refine wc<|wa<|Dv.pos ⟨oM,oM⟩<|Ob.mk ⟨e,g⟩ λx a=>?_;have a:l[j]?=some x:=by rw[←d];exact a
 rw[qx a];exact .refl
def uA(out rs:LQ):LQ:=out++rs.filter λr=>decide (0<r.length)
def zsu(out:LQ)(r:LU):uA out [r]=out++kS r:=by
 unfold uA kS
 cases r with
 |nil=>rfl
 |cons a b=>rfl
def zBx(out:LQ)(r s:LU):uA out [r,s]=out++kS r++kS s:=by
 unfold uA kS
 cases r <;> cases s <;> simp
def zfq{out rs:LQ}{i:Nat}{x:LU}(h:rs[i]?=some x):uA out (rs.take (i+1))=if 0<x.length then uA out (rs.take i)++[x] else uA out (rs.take i):=by
 unfold uA;rw[Xn,h]
 by_cases c:0<x.length
 .rw[Xe c];simp[c]
 rw[Xc c];simp[c]
def zhG(out rs:LQ):(uA out rs).length<=out.length+rs.length:=by
 unfold uA;rw[Xr];have:=Qc (λr:List Pt=>decide (0<r.length)) rs;omega
def zsv{out rs:LQ}(h:∀r∈rs,0<r.length):uA out rs=out++rs:=by
 unfold uA;congr 1;exact List.filter_eq_self.2 λr a=>decide_eq_true (h r a)
def zcK{r:LU}(h:q∈kS r):0<q.length:=by
 unfold kS at h
 split at h
 .cases h
 rename_i k;rw[Xt.1 h];exact Ki λe=>k (Xq e)
def zp7{a v b:Pt}{p:Pen}:∀r∈jh a v b p,0<r.length:=by
 intro r d;unfold jh at d
 split at d
 .cases d
 split at d
 .exact zcK d
 split at d
 .cases d
 exact zcK d
def zHu(rs:LQ)(j:rs.length<=4):CG0 373 [.own 1,.loc 0 0] [(0,.box 88 [nS]),(1,.arr 156 zk 1 rs)] (.tup []) [(0,.box 88 [.own 2]),(2,.arr 156 zk 1 (uA [] rs))]:=by
 refine uk tok mix func373 rfl rfl rfl λa=>?_;refine⟨Nat,λi=>⟨[(1,.loc 0 0),(5,.own 1),(6,i64 rs.length),(7,i64 i)],[(0,.box 88 [.own 2]),(2,.arr 156 zk 1 (uA [] (rs.take i))),(1,.arr 156 zk 1 rs)],3,19,2⟩,λi=>i<=rs.length,λi=>rs.length-i,0,?_,?_,?_⟩
 .exact Xh _
 .exact zB [(0,some 0),(1,some 1),(2,none)]
 rintro i hi
 have pl:=zhG ([]:LQ) (rs.take i);rw[Xp]at pl;refine⟨λg:(i:Int)<rs.length=>?_,λg:¬(i:Int)<rs.length=>?_⟩
 .refine wb<|wb λx(h:rs[i]?=some x)=>?_;have e:=zfq (out:=([]:LQ)) h;intro d;refine⟨λk:(0:Int)<x.length=>?_,λk:¬(0:Int)<x.length=>?_⟩
  .rw[Xe oM]at e;refine⟨LU,zk,[x],rfl,wb0 ?_⟩;refine⟨[x],rfl,Ob.mk ⟨(by show _*(24:Int)<=_;simp only[Xm,Xo]at pl ⊢;omega),(by simp only[Xm,Xo]at pl ⊢;omega),dC,λ_ _=>rfl⟩ ?_⟩;exact wa<|⟨i+1,oM,zt [0,1,4] ⟨rfl,aR e.symm,rfl,tV⟩,oN⟩
  rw[Xc oM]at e;exact wa<|⟨i+1,oM,zt [0,1,2] ⟨rfl,aR e.symm,rfl,tV⟩,oN⟩
 exact⟨⟨[],[(0,.box 88 [.own 2]),(2,.arr 156 zk 1 (uA [] rs))],3,19,2⟩,zt [0,1,2] ⟨rfl,Xg (λq=>some (Mem.arr 156 zk 1 (uA [] q))) (Xi oM),tV⟩,rfl,.refl⟩
def zBy(out rs:LQ)(j:out.length<=100000)(m:rs.length<=4):CG0 373 [.own 2,.loc 0 0] [(0,.box 88 [.own 1]),(1,.arr 156 zk 1 out),(2,.arr 156 zk 1 rs)] (.tup []) [(0,.box 88 [.own 3]),(3,.arr 156 zk 1 (uA out rs))]:=by
 refine uk tok mix func373 rfl rfl rfl λa=>?_;refine⟨Nat,λi=>⟨[(1,.loc 0 0),(5,.own 2),(6,i64 rs.length),(7,i64 i)],[(0,.box 88 [.own 3]),(3,.arr 156 zk 1 (uA out (rs.take i))),(2,.arr 156 zk 1 rs)],4,19,3⟩,λi=>i<=rs.length,λi=>rs.length-i,0,?_,?_,?_⟩
 .exact Xh _
 .exact zt [0,1,2,1] ⟨rfl,aR (XE out).symm,rfl,tV⟩
 rintro i hi
 have pl:=zhG out (rs.take i);rw[Xp]at pl;refine⟨λg:(i:Int)<rs.length=>?_,λg:¬(i:Int)<rs.length=>?_⟩
 .refine wb<|wb λx(h:rs[i]?=some x)=>?_;have e:=zfq (out:=out) h;intro d;refine⟨λk:(0:Int)<x.length=>?_,λk:¬(0:Int)<x.length=>?_⟩
  .rw[Xe oM]at e;refine⟨LU,zk,[x],rfl,wb0 ?_⟩;refine⟨[x],rfl,Ob.mk ⟨(by show _*(24:Int)<=_;simp only[Xm,Xo]at pl ⊢;omega),(by simp only[Xm,Xo]at pl ⊢;omega),dC,λ_ _=>rfl⟩ ?_⟩;exact wa<|⟨i+1,oM,zt [0,1,2,5] ⟨rfl,aR e.symm,rfl,tV⟩,oN⟩
  rw[Xc oM]at e;exact wa<|⟨i+1,oM,zt [0,1,2,3] ⟨rfl,aR e.symm,rfl,tV⟩,oN⟩
 exact⟨⟨[],[(0,.box 88 [.own 3]),(3,.arr 156 zk 1 (uA out rs))],4,19,3⟩,zt [0,1,2,3] ⟨rfl,Xg (λq=>some (Mem.arr 156 zk 1 (uA out q))) (Xi oM),tV⟩,rfl,.refl⟩
def zHv(out rs:LQ)(j:out.length<=100000)(m:rs.length<=4):CG0 373 [.sl zk rs,.loc 0 0] [(0,.box 88 [.own 1]),(1,.arr 156 zk 1 out)] (.tup []) [(0,.box 88 [.own 2]),(2,.arr 156 zk 1 (uA out rs))]:=by
 refine uk tok mix func373 rfl rfl rfl λa=>?_;refine⟨Nat,λi=>⟨[(1,.loc 0 0),(5,.sl zk rs),(6,i64 rs.length),(7,i64 i)],[(0,.box 88 [.own 2]),(2,.arr 156 zk 1 (uA out (rs.take i)))],3,19,2⟩,λi=>i<=rs.length,λi=>rs.length-i,0,?_,?_,?_⟩
 .exact Xh _
 .exact zt [0,1,1] ⟨rfl,aR (XE out).symm,tV⟩
 rintro i hi
 have pl:=zhG out (rs.take i);rw[Xp]at pl;refine⟨λg:(i:Int)<rs.length=>?_,λg:¬(i:Int)<rs.length=>?_⟩
 .refine wb λx(h:rs[i]?=some x)=>?_;have e:=zfq (out:=out) h;intro d;refine⟨λk:(0:Int)<x.length=>?_,λk:¬(0:Int)<x.length=>?_⟩
  .rw[Xe oM]at e;refine⟨LU,zk,[x],rfl,wb0 ?_⟩;refine⟨[x],rfl,Ob.mk ⟨(by show _*(24:Int)<=_;simp only[Xm,Xo]at pl ⊢;omega),(by simp only[Xm,Xo]at pl ⊢;omega),dC,λ_ _=>rfl⟩ ?_⟩;exact wa<|⟨i+1,oM,zt [0,1,4] ⟨rfl,aR e.symm,tV⟩,oN⟩
  rw[Xc oM]at e;exact wa<|⟨i+1,oM,zt [0,1,2] ⟨rfl,aR e.symm,tV⟩,oN⟩
 exact⟨⟨[],[(0,.box 88 [.own 2]),(2,.arr 156 zk 1 (uA out rs))],3,19,2⟩,zt [0,1,2] ⟨rfl,Xg (λq=>some (Mem.arr 156 zk 1 (uA out q))) (Xi oM),tV⟩,rfl,.refl⟩
def ziY(out:LQ)(r:LU)(d:out.length<=100000):CG0 353 [.own 0,.sl ptE r] [(0,.arr 156 zk 1 out)] (.own 1) [(1,.arr 156 zk 1 (out++kS r))]:=by
 refine uk tok mix func353 rfl rfl rfl λa=>?_;refine⟨λk:(r.length:Int)=0=>?_,λk:¬(r.length:Int)=0=>?_⟩
 .have e:out++kS r=out:=by rw[Xq (show r.length=0 by omega)];unfold kS;rw[Xe rfl,XE]
  rw[e];exact⟨⟨[(4,.own 1)],[(1,.arr 156 zk 1 out)],2,13,1⟩,zf [0,0],rfl,.refl⟩
 have e:out++kS r=out++[r]:=by unfold kS;rw[Xc (λh=>k (by rw[h];rfl))]
 rw[e];refine⟨LU,zk,[r],rfl,wb0 ?_⟩;refine⟨[r],rfl,wb14 ?_⟩;exact⟨⟨[(4,.own 1)],[(1,.arr 156 zk 1 (out++[r]))],2,13,1⟩,zf [0,2],rfl,.refl⟩
def zEg(p:Pt):CX 319 [wk p] (pr (¬zm p)):=by
 exact zc func319<|wg (qe p)<|zC Qk
def zBz(F:FuncId)(hF:∀p,CX F [wk p] (pr (¬zm p)))(xs:LU):CX 237 [.sl ptE xs,.fn F []] (i64 (zjJ xs)):=by
 refine zc func237 λo=>?_;refine⟨Int,λi=>⟨[(8,i64 i),(7,i64 xs.length),(0,.sl ptE xs),(1,.fn F [])],[],0,19,0⟩,λi=>0<=i/\i<=xs.length/\∀(j:Nat) q,(j:Int)<i->xs[j]?=some q->zm q,λi=>((xs.length:Int)-i).toNat,0,?_,?_,?_⟩
 .exact⟨oM,oM,λj q a=>by omega⟩
 .exact zB []
 rintro i ⟨s,t,d⟩
 refine⟨λm=>?_,λm=>?_⟩
 .refine wb λx k=>wg (hF x)<|⟨λg=>?_,λg=>?_⟩
  .refine ze ?_;rw[zrV (i:=i.toNat) (λj q a=>d j q oM) k g];omega
  refine wa<|⟨i+1,⟨oM,oM,λj q a h=>?_⟩,zB [],oN⟩
  by_cases e:j=i.toNat
  .subst e;rw[k]at h;cases h;exact Xa.1 g
  exact d j q oM h
 refine ze (zgm λp r=>?_).symm;obtain⟨j,a,n⟩:=Kw r;exact d j p oM (by rw[←n];exact Xb a)
def zsw(F:FuncId)(hF:∀p,CX F [wk p] (pr (¬zm p)))(xs:LU):CX 168 [.sl ptE xs,.fn F []] (pr (¬∀p∈xs,zm p)):=by
 exact zc func168<|wg (zBz F hF xs)<|zC zhq
def v6(rs:LQ):Prop:=∀r∈rs,∀p∈r,zm p
instance (rs:LQ):Decidable (v6 rs):=inferInstanceAs (Decidable (∀_∈_,_))
def ptsE(rs:LQ):SV:=.tup [i64 (if v6 rs then(qh rs:Int) else 0),pr (v6 rs)]
def zma(rs:LQ)(t:(qh rs:Int)<=4611686018427387904):CX 253 [.sl zk rs] (ptsE rs):=by
 refine zc func253 λj=>?_;refine⟨Nat,λi=>⟨[(4,i64 (qh (rs.take i):Int)),(7,.sl zk rs),(8,i64 rs.length),(9,i64 i)],[],0,21,0⟩,λi=>i<=rs.length/\v6 (rs.take i),λi=>rs.length-i,0,?_,?_,?_⟩
 .exact⟨Xh _,λr n=>by cases n⟩
 .exact zB []
 rintro i ⟨s,a⟩
 refine⟨λg:(i:Int)<rs.length=>?_,λg:¬(i:Int)<rs.length=>?_⟩
 .refine wb λx(d:rs[i]?=some x)=>?_;refine wg (zsw 319 zEg x)<|⟨λk=>?_,λk=>?_⟩
  .have k:¬v6 rs:=λh=>k (h x (Xf d))
   refine zP (ze (by rw[Xc k])) (zd k)
  have k:∀p∈x,zm p:=Xa.1 k;intro m;have c1:=vl d;have o:=zat rs (i+1);(iterate 2 refine wa ?_);refine⟨i+1,⟨oM,zdj d a k⟩,jv [] ⟨iR oM,rfl,rfl,rfl,tV⟩ trivial,oN⟩
 rw[Xi oM]at a;have e:qh (rs.take i)=qh rs:=by rw[Xi oM]
 exact zP (ze (by rw[Xe a,e])) (zH a)
def zsx(l:LU):CX 296 [.sl ptE l] (pr (∀p∈l,zm p)):=by
 refine zc func296<|⟨Nat,λi=>⟨[(0,.sl ptE l),(3,i64 i)],[],0,16,0⟩,λi=>i<=l.length/\∀p∈l.take i,zm p,λi=>l.length-i,0,?_,?_,?_⟩
 .exact⟨Xh _,λp a=>by cases a⟩
 .exact zB []
 rintro i ⟨j,d⟩
 intro h;refine⟨λg:(i:Int)<l.length=>?_,λg:¬(i:Int)<l.length=>?_⟩
 .refine wb λx(e:l[i]?=some x)=>?_;refine wg (ki x)<|⟨λb=>zd λk=>b (k x (Xf e)),λb=>?_⟩;have b:=Xa.1 b;refine wa<|⟨i+1,⟨oM,λp a=>?_⟩,zB [],oN⟩;rw[Xn,e]at a
  rcases Xu.1 a with a|a
  .exact d p a
  simp at a;rw[a];exact b
 rw[Xi oM]at d;exact zH d
def zwf(rs:LQ)(k:(qh rs:Int)<=4611686018427387904):CX 235 [.sl zk rs] (i64 (qh rs:Int)):=by
 refine zc func235<|⟨Nat,λi=>⟨[(0,.sl zk rs),(3,i64 (qh (rs.take i):Int)),(4,i64 i)],[],0,19,0⟩,λi=>i<=rs.length,λi=>rs.length-i,0,?_,?_,?_⟩
 .exact Xh _
 .exact zB []
 rintro i j
 intro a;refine⟨λg:(i:Int)<rs.length=>?_,λg:¬(i:Int)<rs.length=>?_⟩
 .refine wb λx(e:rs[i]?=some x)=>?_;intro d;have c1:=vl e;have h:=zat rs (i+1);(iterate 2 refine wa ?_);refine⟨i+1,oM,jv [] ⟨rfl,iR oM,rfl,tV⟩ trivial,oN⟩
 exact ze (by rw[Xi oM])
end Go.Gs
