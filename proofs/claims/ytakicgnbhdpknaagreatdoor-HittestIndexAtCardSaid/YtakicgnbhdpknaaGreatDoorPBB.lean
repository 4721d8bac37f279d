/- Paths cut to polylines, the program's. -/
import Derived.Test.YtakicgnbhdpknaaGreatDoorPBA
set_option maxRecDepth 100000
set_option maxHeartbeats 8000000
set_option linter.all false
namespace Go.Gs
open Proofs.Tryz
open Go.Proofs
variable{cl:LZ}{b:SV}
def zpB{k:Nat}{y:LR}{n:Int}(a:n=(cl.length:Int))(h:(jM cl k b)[n.toNat]?=some y):y=[.own k,b]:=by
 subst a;exact zt0 h sI
def zhk{k:Nat}{w:LR}{n:Int}(a:n=(cl.length:Int)):(jM cl k b).set n.toNat w=cl.map plE++[w]:=by
 subst a;exact zj0 sI
def zeq{k:Nat}{w y:LR}{n:Int}(a:n=(cl.length:Int))(h:((jM cl k b).set n.toNat w)[n.toNat]?=some y):y=w:=by
 rw[zhk a]at h;subst a;exact zt0 h sI
def zxA{k:Nat}{w w':LR}{n:Int}(a:n=(cl.length:Int)):((jM cl k b).set n.toNat w).set n.toNat w'=cl.map plE++[w']:=by
 rw[zhk a];subst a;exact zj0 sI
def zrX{cl:LZ}{p:Pl}{a:Nat}(T:LN):
  ∀(i j:Nat) (x':LR) (s':SV),((cl++[p]).map plE++T)[i]?=some x'->x'[j]?=some s'->∃(x:LR) (s:SV),(jM cl a (pr (p.cl=true))++T)[i]?=some x/\x[j]?=some s/\(s'=s∨(s=.own a/\s'=.sl ptE p.pts)):=by
 intro i j x' s' e d;unfold jM;rw[XA]at e;generalize cl.map plE=L at*
 rcases Qv i L.length with h|h|h
 .rw[XM,XL h]at e;exact⟨x',s',by rw[XM,XL h];exact e,d,.inl rfl⟩
 .subst h;rw[XM,XF (Xj _)]at e;simp at e;subst e;refine⟨[.own a,pr (p.cl=true)],?_⟩
  match j,d with
  |0,d=>simp[plE]at d;subst d;exact⟨.own a,sI,rfl,.inr ⟨rfl,rfl⟩⟩
  |1,d=>simp[plE]at d;subst d;exact⟨pr (p.cl=true),sI,rfl,.inl rfl⟩
  |j+2,d=>simp[plE]at d
 rw[XF (by simp;omega)]at e;refine⟨x',s',?_,d,.inl rfl⟩;rw[XF (by simp;omega)];rw[←e];congr 1;simp
def zpC(p:Pt)(s:Sg)(tol:Int):(kL p s tol).1.length<=64:=by
 unfold kL
 split
 .unfold zdz;split
  .exact Xh _
  rename_i h;have ok:=(yS (show(kZ _ tol _).2=0 from Xa.1 h)).1;have ok:1<=(jY p s.a s.b tol).1/\(jY p s.a s.b tol).1<=64:=ok;dsimp only;rw[zaB];omega
 split
 .unfold zdA;split
  .exact Xh _
  rename_i h;have ok:=(yS (show(kZ _ tol _).2=0 from Xa.1 h)).1;have ok:1<=(jZ p s.a s.b s.c tol).1/\(jZ p s.a s.b s.c tol).1<=64:=ok;dsimp only;rw[zaB];omega
 show 1<=64;decide
variable{l:LU}{z:Pt}
def zAO(h:l[l.length-1]?=some z):qS l=z:=by
 unfold qS;rw[Q9,K7,h];rfl
variable{i:Nat}
def znU{l:LZ}{x:Pl}(h:l[i]?=some x):js (l.take (i+1))=js (l.take i)+x.pts.length:=by
 unfold js;rw[Xm,h];simp
def zpD{l:LZ}{B:Nat}(h:∀q∈l,q.pts.length<=B):∀i,i<=l.length->js (l.take i)<=B*i
 |0,_=>Xh _
 |i+1,hi=>by
  have a:l[i]?=some l[i]:=Xb oM;rw[znU a];have:=zpD h i oM;have:=h _ (X2 (show i<l.length by omega));rw[YS];omega
def zpE(c:LZ×Int):SV:=.tup [.sl plE c.1,i64 c.2]
variable{c:LZ×Int}
def zAP{a:LZ}{b:Int}(h:c=(a,b)):LE (.tup [.sl plE a,i64 b]) (zpE c):=by subst h;exact .refl
def jv{b:Int}(h:c=([],b)):LE (.tup [nS,i64 b]) (zpE c):=by subst h;exact zO zD .refl
variable{q:LU}{f:Pt}
def zhl(a:1<q.length)(g:q[q.length-1]?=some z)(d:q[0]?=some f)(e:z=f):qk q=q.take (q.length-1):=by
 unfold qk;rw[K7,g,Js,d,e,Xe ⟨a,rfl⟩,List.dropLast_eq_take]
def zj2(d:q[q.length-1]?=some z)(a:q[0]?=some f)(e:¬z=f):qk q=q:=by
 unfold qk;rw[K7,d,Js,a,Xc (λk=>e (Xl k.2))]
def zhm(h:¬1<q.length):qk q=q:=by
 unfold qk;rw[Xc (λk=>h k.1)]
def zrY(q:LU):(qk q).length<=q.length:=by
 unfold qk;split
 .rw[Q0];omega
 exact Xj _
variable{tol:Int}{p:Pl}
def zrZ{s:Sg}(a:¬s.v=1):ul tol (cl++[p],0) s=if (zbE p s tol).2≠0 then([],(zbE p s tol).2) else(cl++[(zbE p s tol).1],0):=by
 rw[zhd,Xc a];have e:(cl++[p]).getLastD ⟨[],false⟩=p:=by simp
 rw[e,JL]
def zDs{s:Sg}(h:zdI s):zm s.a/\zm s.b/\zm s.c:=⟨h.1.1,h.2.1.1,h.2.2.1⟩
def zAQ(l:LX)(tol:Int):CX 173 [.sl sgE l,i64 tol] (zpE (zY l tol)):=by
 refine zc func173<|wg (zjU l)<|⟨λJ=>jv (by unfold zY;rw[Xe J]),λJ=>?_⟩;have u:=Xa.1 J;have P:=zin u;have Q:=(zbe.1 u).2;have bad:¬zfG tol->zY l tol=([],2):=λh=>by unfold zY;rw[kI u,Xe h]
 refine⟨λA=>jv (bad (λh=>by have A:tol<1:=A;unfold zfG at h;omega)),λA=>?_⟩;refine⟨λB=>jv (bad (λh=>by have B:256<tol:=B;unfold zfG at h;omega)),λB=>?_⟩;have ht:zfG tol:=⟨by have A:¬tol<1:=A;omega,by have B:¬256<tol:=B;omega⟩;have eQ:zY l tol=if (jk l tol).2≠0 then([],(jk l tol).2) else if 4096<js (jk l tol).1 then([],5) else((jk l tol).1,0):=by unfold zY;rw[kI u,kI ht]
 intro R
 refine⟨Nat×Option (LZ×Pl),λq=>match q with
   |(i,none)=>⟨[(1,i64 tol),(6,.val (.slice none 0 0)),(27,.sl sgE l),(28,i64 l.length),(29,i64 i)],[],0,128,0⟩
   |(i,some (cl,p))=>⟨[(1,i64 tol),(6,.own 0),(27,.sl sgE l),(28,i64 l.length),(29,i64 i)],[(0,.garr 193 2 (jM cl 1 (pr (p.cl=true)))),(1,.arr 28 ptE 2 p.pts)],2,128,0⟩,
  λq=>match q with
   |(i,none)=>i=0
   |(i,some (cl,p))=>0<i/\i<=l.length/\jk (l.take i) tol=(cl++[p],0)/\cl.length<i/\p.pts.length<=1+64*i/\∀q∈cl,q.pts.length<=20000,λq=>l.length-q.1,(0,none),rfl,?_,?_⟩
 .exact zC []
 rintro⟨i,_|⟨cl,p⟩⟩ hI
 .have hI:i=0:=hI;subst hI;refine⟨λg:(0:Int)<l.length=>?_,λg:¬(0:Int)<l.length=>?_⟩
  .refine Ob.mk ⟨dC,g⟩ λx(s:l[0]?=some x)=>?_;have E:x.v=1:=zjm u x s;refine⟨λ_=>?_,λh=>absurd E h⟩;refine⟨Pt,ptE,[x.a],rfl,wb0 ?_⟩;refine⟨[[.own 1,.val (.bool false)]],rfl,wb8 ?_⟩;refine Ob.mk ⟨by show((1:Nat):Int)*32<=_;decide,by show 1<=_;decide,dC⟩<|Ar.fit dC ?_;have e:=zae (tol:=tol) s
   refine⟨(1,some ([],⟨[x.a],false⟩)),⟨dC,oM,?_,dC,by show 1<=_;decide,λq o=>by cases o⟩,
    (zeV 3 rfl (ys:=jM [] 1 (pr ((⟨[x.a],false⟩:Pl).cl=true))) (.cons (.C (.cons (zd (show¬(false=true) by decide)) .nil)) .nil)).trans (zt [3,1] ⟨⟨_,rfl,zat rfl⟩,rfl,tV⟩),by show l.length-1<l.length-0;omega⟩
   rw[e];show ul tol ([],0) x=_;rw[zhd,Xe E]
  have K:l=[]:=Xp oM;refine⟨Unit,λ_=>⟨[(6,nS),(13,i64 0),(114,i64 0),(115,i64 0)],[],0,128,0⟩,λ_=>True,λ_=>0,(),tV,zC [],?_⟩
  rintro⟨⟩ _
  refine⟨λg=>absurd g dC,λ_=>?_⟩;refine⟨λg=>absurd g dC,λ_=>?_⟩;refine jv ?_;rw[eQ,K];rfl
 obtain⟨X,V,F,Y,k4,I⟩:0<i/\i<=l.length/\jk (l.take i) tol=(cl++[p],0)/\cl.length<i/\p.pts.length<=1+64*i/\∀q∈cl,q.pts.length<=20000:=hI;have inv:=zlu (tol:=tol) (lo:=⟨-1048576,-1048576⟩) (hi:=⟨1048576,1048576⟩) Q (λp T=>zAr u p T) i V (by rw[F]);rw[F]at inv;obtain⟨pne,_,pok⟩:=inv.2 p sI;have U:0<p.pts.length:=Kg λh=>pne (Xp h)
 refine⟨λg:(i:Int)<l.length=>?_,λg:¬(i:Int)<l.length=>?_⟩
 .refine Ob.mk ⟨oM,g⟩ λx(s:l[i]?=some x)=>?_;have e:=zae (tol:=tol) s;rw[F]at e;have G:=zDs (zly Q x (Xf s));refine⟨λv1:x.v=1=>?_,λv1:¬x.v=1=>?_⟩
  .refine⟨Pt,ptE,[x.a],rfl,wb0 ?_⟩;refine⟨[[.own 3,.val (.bool false)]],rfl,wb8 ?_⟩;refine Ob.mk ⟨by show _*(32:Int)<=_;rw[zaC];simp only[Xn,Xs];omega,by rw[zaC];simp only[Xn,Xs];omega,dC⟩<|wa ?_
   refine⟨(i+1,some (cl++[p],⟨[x.a],false⟩)),⟨oM,oM,?_,?_,?_,?_⟩,
    ((zeV 5 rfl (ys:=jM cl 1 (pr (p.cl=true))++[[.own 3,pr ((⟨[x.a],false⟩:Pl).cl=true)]]) (Rows.app .refl (.cons (.C (.cons (zd (show¬(false=true) by decide)) .nil)) .nil))).trans
     (zc0 (sz0:=2) (T0:=193) 1 5 (enc:=ptE) (ys:=p.pts) rfl rfl (xs':=jM (cl++[p]) 3 (pr ((⟨[x.a],false⟩:Pl).cl=true))) (by simp[jM]) (λz d=>?_) (zrX _))).trans
     (zt [5,3] ⟨⟨_,rfl,zat rfl⟩,rfl,tV⟩),by show l.length-(i+1)<l.length-i;omega⟩
   .rw[e,zhd,Xe v1]
   .simp only[Xq,Xn,Xs];omega
   .show 1<=_;omega
   .intro q o
    rcases Xt.1 o with o|o
    .exact I q o
    rw[Xu.1 o];omega
   rcases Xt.1 d with d|d
   .obtain⟨w,_,rfl⟩:=XN.1 d;rfl
   rw[Xu.1 d];rfl
  rw[zrZ v1]at e;intro S;refine wa ?_;have N:=zaC cl 1 (pr (p.cl=true));have hN:((jM cl 1 (pr (p.cl=true))).length:Int)-1=cl.length:=by rw[N];omega
  have hrow:0<=((jM cl 1 (pr (p.cl=true))).length:Int)-1/\((jM cl 1 (pr (p.cl=true))).length:Int)-1<(jM cl 1 (pr (p.cl=true))).length:=oM;refine Ob.mk hrow<|Br.mk (λt=>?_) (λt=>?_)
  .have t:¬x.v=5:=t;refine wd<|Ob.mk hrow λy r=>?_;obtain rfl:=zpB hN r;refine Ob.mk hrow λy r=>?_;obtain rfl:=zpB hN r;intro L;refine wa<|wb<|wb λz d=>?_
   have d:p.pts[p.pts.length-1]?=some z:=by
    have d:p.pts[((p.pts.length:Int)-1).toNat]?=some z:=d
    rwa [show((p.pts.length:Int)-1).toNat=p.pts.length-1 by omega]at d
   have M:=zAO d
   have eg:zbE p x tol=if (kL z x tol).2≠0 then(p,(kL z x tol).2) else(⟨ky p.pts (kL z x tol).1,p.cl⟩,0):=by
    unfold zbE;rw[Xc t,M]
   refine wg (p_seg z x tol (pok z (Xf d)) G)<|wh ?_;have sl:=zpC z x tol;refine⟨λk:¬(kL z x tol).2=0=>?_,λk=>?_⟩
   .refine jv ?_;rw[Xe k]at eg;rw[eg,Xe k]at e;have:=znB s (by rw[e];exact k);rw[e]at this;rw[eQ,this,Xe k]
   have k:(kL z x tol).2=0:=Xa.1 k;rw[qK k]at eg;rw[eg,qK rfl]at e
   refine zb.give [0,1] 1 [.eloc 0 2 (cl.length:Int) 0,.sl ptE (kL z x tol).1] [(0,.garr 193 2 (jM cl 1 (pr (p.cl=true)))),(1,.arr 28 ptE 2 p.pts)]
    [(0,.garr 193 2 (jM cl 2 (pr (p.cl=true)))),(2,.arr 28 ptE 2 (ky p.pts (kL z x tol).1))] (.tup []) (zGy cl p.pts (kL z x tol).1 (p.cl=true) oM sl oM)
    (.cons (ue (Xg (λn=>SV.eloc 0 2 n 0) hN)) (.C .nil)) rfl rfl rfl ⟨⟨_,rfl,Xg (λq=>some (Mem.garr 193 2 q)) (zrT [0,1] _ cl 1 _ _).symm,zAM rfl cl _ _⟩,⟨_,rfl,rfl,tV⟩,tV⟩ rfl ⟨⟨rfl,zAN rfl cl _ _⟩,⟨rfl,tV⟩,tV⟩ ?_
   refine wa ?_
   refine⟨(i+1,some (cl,⟨ky p.pts (kL z x tol).1,p.cl⟩)),⟨oM,oM,e,oM,?_,I⟩,
    zt [0,3] ⟨⟨_,Xg (λq=>some (Mem.garr 193 2 q)) (zrT [0,1] 3 cl 2 _ _),zat rfl⟩,rfl,tV⟩,by show l.length-(i+1)<l.length-i;omega⟩
   have:=vG (kL z x tol).1 p.pts;show(ky p.pts (kL z x tol).1).length<=_;omega
  have t:x.v=5:=Xa.1 t;have eg:zbE p x tol=(⟨qk p.pts,true⟩,0):=by unfold zbE;rw[Xe t]
  rw[eg,qK rfl]at e;refine Ob.mk hrow λy r=>?_;obtain rfl:=zpB hN r;have hrow2:∀w:LR,0<=((jM cl 1 (pr (p.cl=true))).length:Int)-1/\((jM cl 1 (pr (p.cl=true))).length:Int)-1<((jM cl 1 (pr (p.cl=true))).set (((jM cl 1 (pr (p.cl=true))).length:Int)-1).toNat w).length:=λw=>by rw[XS];omega
  refine Ob.mk (hrow2 _) λy r=>?_;obtain rfl:=zeq hN r;intro L
  have fin:∀{Z:St} (q:LU),qk p.pts=q->Sub Z ⟨[(1,i64 tol),(6,.own 0),(27,.sl sgE l),(28,i64 l.length),(29,i64 ((i+1:Nat):Int))],[(0,.garr 193 2 (jM cl 1 (pr ((⟨qk p.pts,true⟩:Pl).cl=true)))),(1,.arr 28 ptE 2 q)],2,128,0⟩->
    ∃x',(match x' with
     |(i,none)=>i=0
     |(i,some (cl,p))=>0<i/\i<=l.length/\jk (l.take i) tol=(cl++[p],0)/\cl.length<i/\p.pts.length<=1+64*i/\∀q∈cl,q.pts.length<=20000:Prop)/\
    Sub Z (match x' with
     |(i,none)=>⟨[(1,i64 tol),(6,.val (.slice none 0 0)),(27,.sl sgE l),(28,i64 l.length),(29,i64 i)],[],0,128,0⟩
     |(i,some (cl,p))=>⟨[(1,i64 tol),(6,.own 0),(27,.sl sgE l),(28,i64 l.length),(29,i64 i)],[(0,.garr 193 2 (jM cl 1 (pr (p.cl=true)))),(1,.arr 28 ptE 2 p.pts)],2,128,0⟩)/\l.length-x'.1<l.length-(i,some (cl,p)).1:=λq o O=>by
   refine⟨(i+1,some (cl,⟨qk p.pts,true⟩)),⟨oM,oM,e,oM,?_,I⟩,?_,by show l.length-(i+1)<l.length-i;omega⟩
   .have:=zrY p.pts;show(qk p.pts).length<=_;omega
   subst o;exact O
  refine wd<|Br.mk (λm=>?_) (λm=>?_)
  .have m:(1:Int)<p.pts.length:=m;refine Ob.mk (hrow2 _) λy r=>?_;obtain rfl:=zeq hN r;refine wa<|wb<|wb λz d=>?_
   have d:p.pts[p.pts.length-1]?=some z:=by
    have d:p.pts[((p.pts.length:Int)-1).toNat]?=some z:=d
    rwa [show((p.pts.length:Int)-1).toNat=p.pts.length-1 by omega]at d
   refine Ob.mk (hrow2 _) λy r=>?_;obtain rfl:=zeq hN r;refine wb<|wb λf(G:p.pts[0]?=some f)=>?_;refine wh<|⟨λk=>?_,λk=>?_⟩
   .have k:z=f:=qm.1 k;refine Ob.mk (hrow2 _) λy r=>?_;obtain rfl:=zeq hN r;refine wa<|Sl.keep (Ob.mk ⟨rfl,oM,oM⟩ ?_);refine Ob.mk (hrow2 _) λy r=>?_;obtain rfl:=zeq hN r;refine wa<|fin (p.pts.take ((p.pts.length:Int)-1).toNat) ?_ ?_;rotate_left
    .exact(zeV 0 (by exact Xg (λq=>some (Mem.garr 193 2 q)) (zxA hN)) (ys:=jM cl 3 (pr ((⟨qk p.pts,true⟩:Pl).cl=true))) (Rows.app .refl (.cons (.C (.cons (zH rfl) .nil)) .nil))).trans
      (zt [0,3] ⟨⟨_,rfl,zat rfl⟩,rfl,tV⟩)
    rw[show((p.pts.length:Int)-1).toNat=p.pts.length-1 by omega];exact zhl oM d G k
   have k:¬z=f:=λh=>k (qm.2 h)
   refine wa<|fin p.pts (zj2 d G k) ?_
   exact((zeV 0 (by exact Xg (λq=>some (Mem.garr 193 2 q)) (zhk hN)) (ys:=jM cl 1 (pr ((⟨qk p.pts,true⟩:Pl).cl=true))) (Rows.app .refl (.cons (.C (.cons (zH rfl) .nil)) .nil))).trans
    (zt [0,1] ⟨⟨_,rfl,zat rfl⟩,rfl,tV⟩))
  have m:¬(1:Int)<p.pts.length:=m;refine wh<|wa<|fin p.pts (zhm oM) ?_
  exact((zeV 0 (by exact Xg (λq=>some (Mem.garr 193 2 q)) (zhk hN)) (ys:=jM cl 1 (pr ((⟨qk p.pts,true⟩:Pl).cl=true))) (Rows.app .refl (.cons (.C (.cons (zH rfl) .nil)) .nil))).trans
   (zt [0,1] ⟨⟨_,rfl,zat rfl⟩,rfl,tV⟩))
 have hi:l.take i=l:=Xi oM;rw[hi]at F
 have hout:∀q∈cl++[p],q.pts.length<=20000:=λq o=>by
  rcases Xt.1 o with o|o
  .exact I q o
  rw[Xu.1 o];omega
 have D:(cl++[p]).length=cl.length+1:=by simp
 rw[eQ,F,qK rfl];intro hl12;refine⟨Nat,λk=>⟨[(6,.own 0),(13,i64 (js ((cl++[p]).take k):Int)),(113,.own 0),(114,i64 ((cl++[p]).length:Int)),(115,i64 k)],[(0,.arr 193 plE 2 (cl++[p]))],1,128,0⟩,λk=>k<=(cl++[p]).length,λk=>(cl++[p]).length-k,0,?_,?_,?_⟩
 .exact Xh _
 .exact((zc0 (sz0:=2) (T0:=193) 1 0 (enc:=ptE) (ys:=p.pts) rfl rfl (xs':=(cl++[p]).map plE) (by rw[zaC,Xw,D]) (λz d=>by obtain⟨w,_,rfl⟩:=XN.1 d;rfl)
   (λi j x' s' s O=>by have:=zrX (cl:=cl) (p:=p) (a:=1) [] i j x' s' (by rwa [XC]) O;rwa [XC]at this)).trans (zgR 0 plE (cl++[p]) rfl (λ_ _=>rfl))).trans
   (zP [0] ⟨rfl,rfl,rfl,iR (by rw[zaC,D]),rfl,tV⟩ ⟨rfl,tV⟩)
 rintro k H
 have W:=zpD hout k H;refine⟨λg:(k:Int)<(cl++[p]).length=>?_,λg:¬(k:Int)<(cl++[p]).length=>?_⟩
 .refine wb<|wb λq(o:(cl++[p])[k]?=some q)=>?_;intro hl14;have:=hout q (Xf o);(iterate 2 refine wa ?_);refine⟨k+1,oM,zP [0] ⟨rfl,iR (by rw[znU o];omega),rfl,rfl,rfl,tV⟩ ⟨rfl,tV⟩,oN⟩
 have H:(cl++[p]).take k=cl++[p]:=Xi oM;refine⟨λm:(4096:Int)<(js ((cl++[p]).take k):Int)=>?_,λm:¬(4096:Int)<(js ((cl++[p]).take k):Int)=>?_⟩
 .rw[H]at m;exact jv (Xe (show 4096<js (cl++[p]) by omega))
 rw[H]at m;exact zAP (Xc (show¬4096<js (cl++[p]) by omega))
def ziC(h:jH l):qk (qk l)=qk l:=by
 have:=znA h;generalize qk l=m at*;unfold qk;rw[Xc (λk=>this k.1 k.2)]
def zfK(l:LX)(tol:Int):Nat->Nat->LU->Pl×Nat×Int
 |0,i,q=>(⟨q,false⟩,i,0)
 |k+1,i,q=>match l[i]? with
  |none=>(⟨q,false⟩,i,0)
  |some s=>if s.v=1 then(⟨q,false⟩,i,0) else if s.v=5 then(⟨qk q,true⟩,i+1,0)
   else if (kL (qS q) s tol).2≠0 then(⟨[],false⟩,0,(kL (qS q) s tol).2) else zfK l tol k (i+1) (ky q (kL (qS q) s tol).1)
def zlJ{l:LX}{s:Sg}(h:l[i]?=some s):zfK l tol (l.length-i) i q=
  if s.v=1 then(⟨q,false⟩,i,0) else if s.v=5 then(⟨qk q,true⟩,i+1,0)
   else if (kL (qS q) s tol).2≠0 then(⟨[],false⟩,0,(kL (qS q) s tol).2) else zfK l tol (l.length-(i+1)) (i+1) (ky q (kL (qS q) s tol).1):=by
 have hi:=(Xd.1 h).1;rw[show l.length-i=(l.length-(i+1))+1 by omega,zfK,h]
def znV{l:LX}(h:l.length<=i):zfK l tol (l.length-i) i q=(⟨q,false⟩,i,0):=by
 rw[show l.length-i=0 by omega];rfl
def SubOK(l:LX)(tol:Int)(a:Nat)(out:LZ)(r:Pl×Nat×Int):Prop:=
 (r.2.2≠0/\jk l tol=([],r.2.2))∨(r.2.2=0/\a<r.2.1/\r.2.1<=l.length/\(∀y,l[r.2.1]?=some y->y.v=1)/\jk (l.take r.2.1) tol=(out++[r.1],0)/\r.1.pts.length<=1+64*l.length)
def zlK{l:LX}{tol:Int}{a:Nat}{out:LZ}(u:oks 5 l):∀(k i:Nat) (q:LU),k=l.length-i->a<i->i<=l.length->jk (l.take i) tol=(out++[⟨q,false⟩],0)->q.length<=1+64*i->SubOK l tol a out (zfK l tol (l.length-i) i q)
 |0,i,q,A,o,r,n,w=>by
  rw[znV oM];exact .inr ⟨rfl,o,r,λy d=>by have:=(Xd.1 d).1;dsimp only at this;omega,n,by show q.length<=_;omega⟩
 |k+1,i,q,A,o,r,n,w=>by
  have hi:i<l.length:=oM;have g:l[i]?=some l[i]:=Xb hi;have e:=zae (tol:=tol) g;rw[n]at e;rw[zlJ g];generalize l[i]=s at*
  by_cases v1:s.v=1
  .rw[Xe v1];exact .inr ⟨rfl,o,r,λy d=>by have d:l[i]?=some y:=d;rw[g]at d;rw[←Xl d];exact v1,n,by show q.length<=_;omega⟩
  rw[Xc v1];rw[zrZ v1]at e
  by_cases m:s.v=5
  .rw[Xe m];have eg:zbE ⟨q,false⟩ s tol=(⟨qk q,true⟩,0):=by unfold zbE;rw[Xe m]
   rw[eg,qK rfl]at e;refine .inr ⟨rfl,by show a<i+1;omega,by show i+1<=_;omega,λy d=>?_,e,?_⟩
   .have t:=ztV u d;have B:zrD 5 l (i+1)=s.v:=zlt g;dsimp only at t;rw[B,m]at t;exact(u4.1 t).2.1.resolve_right λh=>h.1 rfl
   have:=zrY q;show(qk q).length<=_;omega
  rw[Xc m];have eg:zbE ⟨q,false⟩ s tol=if (kL (qS q) s tol).2≠0 then(⟨q,false⟩,(kL (qS q) s tol).2) else(⟨ky q (kL (qS q) s tol).1,false⟩,0):=by unfold zbE;rw[Xc m]
  by_cases j:(kL (qS q) s tol).2=0
  .rw[qK j]at eg ⊢;rw[eg,qK rfl]at e;have C:=vG (kL (qS q) s tol).1 q;have D:=zpC (qS q) s tol;exact zlK u k (i+1) _ oM oM oM e oM
  rw[Xe j]at eg ⊢;rw[eg,Xe j]at e;have:=znB g (by rw[e];exact j);rw[e]at this;exact .inl ⟨j,this⟩
def zGA{p:Pt}{s:Sg}(h:(kL p s tol).2=0):(kL p s tol).1≠[]:=by
 have up:∀(f:Int->Pt) (n:Nat),1<=n->zcx f n≠[]:=λf n j e=>by
  have:=zaB f n;rw[e]at this;simp at this;omega
 unfold kL at h ⊢
 by_cases d:s.v=3
 .rw[Xe d]at h ⊢;have k:(jY p s.a s.b tol).2=0:=Xa.1 λk=>k (by rw[ziy k]at h;exact h)
  have ok:=(yS (show(kZ _ tol _).2=0 from k)).1;have ok:1<=(jY p s.a s.b tol).1/\(jY p s.a s.b tol).1<=64:=ok;rw[zlH k];dsimp only;exact up _ _ (show 1<=(jY p s.a s.b tol).1.toNat by omega)
 rw[Xc d]at h ⊢
 by_cases g:s.v=4
 .rw[Xe g]at h ⊢;have k:(jZ p s.a s.b s.c tol).2=0:=Xa.1 λk=>k (by rw[ziA k]at h;exact h)
  have ok:=(yS (show(kZ _ tol _).2=0 from k)).1;have ok:1<=(jZ p s.a s.b s.c tol).1/\(jZ p s.a s.b s.c tol).1<=64:=ok;rw[zlI k];dsimp only;exact up _ _ (show 1<=(jZ p s.a s.b s.c tol).1.toNat by omega)
 rw[Xc g];simp
def subE(r:Pl×Nat×Int):SV:=.tup [wv r.1,i64 (r.2.1:Int),i64 r.2.2]
def zt1{q more:LU}{z:Pt}(h:more[more.length-1]?=some z):qS (ky q more)=z:=by
 have a:more≠[]:=λe=>by rw[e]at h;simp at h
 unfold qS;rw[Q9,znz more q a,K7,h];rfl
def zxB(l:LX)(a:Nat)(x:Sg)(tol:Int)(E:l[a]?=some x)(D:l.length<=300):
  CX 223 [.sl sgE l,i64 a,i64 tol] (subE (zfK l tol (l.length-(a+1)) (a+1) [x.a])):=by
 have T:=(Xd.1 E).1;refine zah 1 tok mix func223 rfl rfl rfl<|wb5 λx' w=>?_;have ex:x'=x:=Xl ((show l[a]?=some x' from w).symm.trans E);rw[ex];refine⟨Pt,ptE,[x.a],rfl,wb0 ?_⟩;refine wa ?_;generalize hR:zfK l tol (l.length-(a+1)) (a+1) [x.a]=R
 refine⟨Nat×LU,λs=>⟨[(0,.sl sgE l),(2,i64 tol),(6,.loc 0 0),(9,.loc 1 0),(10,.loc 2 0),(11,i64 (s.1:Int))],
   [(0,.box 193 [nS,.val (.bool false)]),(1,.box 28 (ptE (qS s.2))),(2,.box 193 [.own 3,.val (.bool false)]),(3,.arr 28 ptE 2 s.2)],4,102,0⟩,
  λs=>a<s.1/\s.1<=l.length/\zfK l tol (l.length-s.1) s.1 s.2=R/\jH s.2/\s.2≠[]/\s.2.length<=1+64*s.1,λs=>l.length-s.1,(a+1,[x.a]),?_,?_,?_⟩
 .exact⟨oN,oN,hR,⟨λ_ h=>(by cases h),tV⟩,sI,by show 1<=_;omega⟩
 .exact zP [0,1,3,2] ⟨rfl,rfl,rfl,rfl,rfl,iR (show((a+1:Nat):Int)=(a:Int)+1 by omega).symm,tV⟩ ⟨rfl,rfl,rfl,rfl,tV⟩
 rintro⟨i,q⟩ ⟨H,I,j,t,u,J⟩
 dsimp only at H I j t u J;have P:0<q.length:=Kg λh=>u (Xp h)
 have out:(l.length<=i∨∃s,l[i]?=some s/\s.v=1)->R=(⟨q,false⟩,i,0):=λh=>by
  rw[←j]
  rcases h with h|⟨s,o,Q⟩
  .exact znV h
  rw[zlJ o,Xe Q]
 have fin:R=(⟨q,false⟩,i,0)->LE (.tup [.agg [.sl ptE q,bl false],i64 i,i64 0]) (subE R):=λh=>by
  rw[h];exact zaP (.cons (jp (.C (.cons (zd (show¬(false=true) by decide)) .nil))) (.C (.C .nil)))
 intro K;refine⟨λg=>?_,λg=>?_⟩;rotate_left
 .have g:¬(i:Int)<l.length:=g;exact fin (out (.inl oM))
 have g:(i:Int)<l.length:=g;refine wb λs(o:l[i]?=some s)=>?_;refine⟨λv1=>?_,λv1=>?_⟩;rotate_left
 .have v1:s.v=1:=Xa.1 v1;exact fin (out (.inr ⟨s,o,v1⟩))
 have v1:¬s.v=1:=v1;rw[zlJ o,Xc v1]at j;refine wb λs' n=>?_;have r:s'=s:=Xl ((show l[i]?=some s' from n).symm.trans o);rw[r];refine⟨λy:s.v=5=>?_,λy:¬s.v=5=>?_⟩
 .rw[Xe y]at j
  refine⟨LU,λd=>⟨[(6,.loc 0 0),(10,.loc 2 0),(11,i64 i)],
    [(0,.box 193 [nS,.val (.bool false)]),(2,.box 193 [.own 3,.val (.bool true)]),(3,.arr 28 ptE 2 d)],4,102,0⟩,
   λd=>qk d=qk q/\jH d/\d.length<=q.length,λd=>d.length,q,?_,?_,?_⟩
  .exact⟨rfl,t,Xj _⟩
  .exact zC [(0,some 0),(2,some 2),(3,some 3)]
  rintro d ⟨F,G,U⟩
  have fin2:qk d=d->LE (.tup [.agg [.sl ptE d,bl true],i64 ((i:Int)+1),i64 0]) (subE R):=λh=>by
   rw[←j,←F,h];exact zaP (.cons (jp (.C (.cons (zH rfl) .nil))) (.cons (ze (show(i:Int)+1=((i+1:Nat):Int) by omega)) (.C .nil)))
  refine wd λL=>?_;refine⟨λm:(1:Int)<d.length=>?_,λm:¬(1:Int)<d.length=>?_⟩
  .intro M;refine wa<|wb<|wb λz e=>?_
   have e:d[d.length-1]?=some z:=by
    have e:d[((d.length:Int)-1).toNat]?=some z:=e
    rwa [show((d.length:Int)-1).toNat=d.length-1 by omega]at e
   refine wb<|wb λf(B:d[0]?=some f)=>?_;refine wh<|⟨λk=>?_,λk=>?_⟩
   .have k:z=f:=qm.1 k;have A:=zhl (show 1<d.length by omega) e B k;intro N;refine wa<|Sl.keep (Ob.mk ⟨rfl,oM,oM⟩ ?_);refine⟨d.take (d.length-1),⟨?_,?_,?_⟩,zdy [(0,some 0),(2,some 2),(3,some 4)] ⟨rfl,rfl,aR (by rw[show((d.length:Int)-1).toNat=d.length-1 by omega]),tV⟩,?_⟩
    .rw[←A,ziC G,F]
    .rw[←A];exact zbF G
    .rw[Xo];omega
    show(d.take (d.length-1)).length<d.length;rw[Xo];omega
   have k:¬z=f:=λh=>k (qm.2 h)
   exact wa<|fin2 (zj2 e B k)
  exact wh<|wa<|fin2 (zhm oM)
 rw[Xc y]at j;refine wd<|wb λs' n=>?_;have r:s'=s:=Xl ((show l[i]?=some s' from n).symm.trans o);rw[r];refine wg (r_seg (qS q) s tol)<|wh<|⟨λk=>?_,λk=>?_⟩
 .have k:¬(kL (qS q) s tol).2=0:=k;rw[Xe k]at j;rw[←j];exact zaP (.cons (jp (.cons zD (.cons (zd (show¬(false=true) by decide)) .nil))) (.C (.C .nil)))
 have k:(kL (qS q) s tol).2=0:=Xa.1 k;rw[qK k]at j;have sl:=zpC (qS q) s tol;have sn:=zGA k;have S:0<(kL (qS q) s tol).1.length:=Kg λh=>sn (Xp h)
 have pl:=vG (kL (qS q) s tol).1 q
 refine zb.give [3] 1 [.own 0,.sl ptE (kL (qS q) s tol).1] [(0,.arr 28 ptE 2 q)] [(1,.arr 28 ptE 2 (ky q (kL (qS q) s tol).1))] (.own 1) (zGz q (kL (qS q) s tol).1 oM sl)
  LEs.refl rfl rfl rfl ⟨⟨_,rfl,rfl,tV⟩,tV⟩ rfl ⟨⟨rfl,tV⟩,tV⟩ ?_
 intro O;refine wa<|wb λz e=>?_
 have e:(kL (qS q) s tol).1[(kL (qS q) s tol).1.length-1]?=some z:=by
  have e:(kL (qS q) s tol).1[(((kL (qS q) s tol).1.length:Int)-1).toNat]?=some z:=e
  rwa [show(((kL (qS q) s tol).1.length:Int)-1).toNat=(kL (qS q) s tol).1.length-1 by omega]at e
 have elp:=zt1 (q:=q) e;refine wa ?_
 refine⟨(i+1,ky q (kL (qS q) s tol).1),⟨oN,oN,j,zga _ t,zpr _ u,oN⟩,
  zt [0,1,2,4] ⟨rfl,?_,rfl,rfl,tV⟩,oN⟩
 exact bR ptE elp.symm
def zAR(l:LX)(tol:Int):CX 154 [.sl sgE l,i64 tol] (zpE (zY l tol)):=by
 refine zc func154<|wg (zg4 l)<|⟨λr=>jv (by unfold zY;rw[Xe r]),λr=>?_⟩;have n:=Xa.1 r;have B:=zin n;have J:=(zbe.1 n).2;refine wg (zAy tol)<|⟨λt=>jv (by unfold zY;rw[kI n,Xe t]),λt=>?_⟩;have ht:=Xa.1 t;have eQ:zY l tol=if (jk l tol).2≠0 then([],(jk l tol).2) else if 4096<js (jk l tol).1 then([],5) else((jk l tol).1,0):=by unfold zY;rw[kI n,kI ht]
 refine⟨Pl,plE,[],rfl,wb2 ?_⟩
 refine⟨Nat×LZ,λs=>⟨[(0,.sl sgE l),(1,i64 tol),(6,.own 0),(7,i64 (js s.2:Int)),(8,i64 (s.1:Int))],[(0,.arr 193 plE 2 s.2)],1,47,0⟩,
  λs=>s.1<=l.length/\jk (l.take s.1) tol=(s.2,0)/\(∀y,l[s.1]?=some y->y.v=1)/\s.2.length<=s.1/\∀q∈s.2,q.pts.length<=20000,λs=>l.length-s.1,(0,[]),?_,?_,?_⟩
 .exact⟨Xh _,rfl,λy K=>zjm n y K,Xh _,λq d=>by cases d⟩
 .exact zf [0]
 rintro⟨i,out⟩ ⟨F,o,A,G,u⟩
 dsimp only at F o A G u;have H:=zpD u out.length (Xj _);rw[X9]at H;intro I;refine⟨λg:(i:Int)<l.length=>?_,λg:¬(i:Int)<l.length=>?_⟩
 .obtain⟨x,w⟩:∃x,l[i]?=some x:=⟨_,Xb oM⟩;have v1:=A x w;have e:=zae (tol:=tol) w;rw[o,zhd,Xe v1]at e;have sp:=zlK (a:=i) J (l.length-(i+1)) (i+1) [x.a] rfl oM oM e (by show 1<=_;omega);refine wg (zxB l i x tol w oM) ?_;generalize zfK l tol (l.length-(i+1)) (i+1) [x.a]=R at*;obtain⟨p,j,er⟩:=R;refine⟨λk=>?_,λk=>?_⟩
  .have k:¬er=0:=k
   obtain⟨_,sp⟩|⟨sp,_⟩:=sp
   .refine jv ?_;dsimp only at sp;rw[eQ,sp,Xe k]
   exact absurd sp k
  have k:er=0:=Xa.1 k
  obtain⟨sp,_⟩|⟨_,L,C,D,E,M⟩:=sp
  .exact absurd k sp
  dsimp only at L C D E M;intro h;have h:p.pts.length<=9223372036854775807:=h;refine Ar.fit (by show _<=(js out:Int)+(p.pts.length:Int)/\(js out:Int)+(p.pts.length:Int)<=_;omega)<|⟨Pl,plE,[p],rfl,wb0 ?_⟩;refine⟨[p],rfl,Ob.mk ⟨(by show _*(32:Int)<=_;simp only[Xn,Xs];omega),(by simp only[Xn,Xs];omega),dC,λ_ _=>rfl⟩ ?_⟩
  refine⟨(j,out++[p]),⟨C,E,D,by simp only[Xq,Xn,Xs];omega,λq d=>?_⟩,
   zP [3] ⟨rfl,rfl,rfl,iR (show(js out:Int)+(p.pts.length:Int)=(js (out++[p]):Int) by unfold js;simp),rfl,tV⟩ ⟨rfl,tV⟩,oN⟩
  rcases Xt.1 d with d|d
  .exact u q d
  rw[Xu.1 d];omega
 rw[Xi oM]at o;rw[eQ,o,qK rfl];refine⟨λm:(4096:Int)<(js out:Int)=>?_,λm:¬(4096:Int)<(js out:Int)=>?_⟩
 .exact jv (Xe (show 4096<js out by omega))
 exact zAP (Xc (show¬4096<js out by omega))
def zgg:∀(l A:LU) (p:Pt),ky (A++[p]) l=A++qY (p::l)
 |[],A,p=>rfl
 |x::r,A,p=>by
  have e:ky (A++[p]) (x::r)=ky (y4 (A++[p]) x) r:=rfl;rw[e];unfold y4;rw[JN];have d:qY (p::x::r)=if p=x then qY (x::r) else p::qY (x::r):=rfl
  rw[d]
  by_cases c:p=x
  .subst c;rw[Xe rfl,Xe rfl];exact zgg r A p
  rw[Xc (λk=>c (Xl k)),Xc c,zgg r (A++[p]) x,XM];rfl
def zr0(l:LU):ky [] l=qY l:=by
 cases l with
 |nil=>rfl
 |cons p r=>exact zgg r [] p
def dd(xs:LU)(i:Nat):LU:=ky [] (xs.take i)
variable{xs:LU}{x:Pt}
def zhn(h:xs[i]?=some x):dd xs (i+1)=y4 (dd xs i) x:=by
 unfold dd;exact ziB h
def zGB(xs:LU)(i:Nat):(dd xs i).length<=i:=by
 unfold dd;have:=vG (xs.take i) [];rw[Xo]at this;simp at this;omega
def zt2{xs:LU}{i:Nat}(h:xs.length<=i):dd xs i=qY xs:=by
 unfold dd;rw[Xi h,zr0]
def zvG(h:xs[i]?=some z):(dd xs (i+1)).getLast?=some z:=by
 rw[zhn h];exact zrC _ _
def zGC(h:xs[0]?=some x):dd xs 1=xs.take 1:=by
 rw[zhn h,Xm,h];rfl
def zpF(d:xs[i]?=some z)(a:xs[i+1]?=some x)(e:z=x):dd xs (i+2)=dd xs (i+1):=by
 rw[zhn a];unfold y4;rw[zvG d,e,Xe rfl]
def zlL(d:xs[i]?=some z)(a:xs[i+1]?=some x)(e:¬z=x):dd xs (i+2)=dd xs (i+1)++[x]:=by
 rw[zhn a];unfold y4;rw[zvG d,Xc (λk=>e (Xl k))]
def zDt(h:xs[i]?=some x):xs.take (i+1)=xs.take i++[x]:=by
 rw[Xm,h];rfl
def zxC(xs:LU)(W:xs.length<=4096):CG0 315 [.own 0] [(0,.arr 28 ptE 2 xs)] (.sl ptE (qY xs)) []:=by
 refine zjt 1 tok mix func315 rfl rfl rfl λQ=>?_;refine⟨λg:(xs.length:Int)<2=>?_,λg:¬(xs.length:Int)<2=>?_⟩
 .refine z6 ?_
  match xs,g with
  |[],_=>rfl
  |[p],_=>rfl
  |_::_::_,g=>exact absurd g (by simp only[Xn];omega)
 refine⟨Nat,λi=>⟨[(0,.own 0),(3,i64 ((i:Int)+1))],[(0,.arr 28 ptE 2 xs)],1,61,1⟩,λi=>i+1<=xs.length/\dd xs (i+1)=xs.take (i+1),λi=>xs.length-i,0,?_,?_,?_⟩
 .exact⟨oM,zGC (Xb oM)⟩
 .exact zf [0]
 rintro i ⟨V,D⟩
 intro R;refine⟨λa=>?_,λa=>?_⟩;rotate_left
 .have a:¬(i:Int)+1<xs.length:=a;refine z6 ?_;rw[←zt2 (i:=i+1) oM,D,Xi oM]
 have a:(i:Int)+1<xs.length:=a;refine wc<|Ob.mk ⟨oM,a⟩<|Ob.mk ⟨oM,a⟩ λx J=>?_
 have o:xs[i+1]?=some x:=by
  have h:xs[((i:Int)+1).toNat]?=some x:=J
  rwa [show((i:Int)+1).toNat=i+1 by omega]at h
 refine wa<|wb5<|wb5 λz L=>?_
 have B:xs[i]?=some z:=by
  have h:xs[((i:Int)+1-1).toNat]?=some z:=L
  rwa [show((i:Int)+1-1).toNat=i by omega]at h
 refine⟨λk=>?_,λk=>?_⟩;rotate_left
 .have k:¬z=x:=λh=>k (qm.2 h.symm)
  refine wa<|⟨i+1,⟨oM,?_⟩,zP [0] ⟨rfl,iR oM,tV⟩ ⟨rfl,tV⟩,oN⟩;rw[zlL B o k,D,zDt o]
 have k:z=x:=(qm.1 k).symm;refine Sl.win (Ob.mk ⟨oM,oM,oM,oM⟩ ?_)
 refine⟨Nat×Nat×LU,λs=>⟨[(0,.own 0),(3,i64 (s.2.1:Int)),(4,.win 0 2 ((i:Int)+1) ((xs.length:Int)-((i:Int)+1))),(5,i64 ((s.1:Int)+1))],[(0,.arr 28 ptE 2 s.2.2)],1,61,1⟩,
  λs=>i+1+s.1<xs.length/\s.2.2.length=xs.length/\s.2.2.take s.2.1=dd xs (i+s.1+2)/\s.2.1=(dd xs (i+s.1+2)).length/\s.2.1<=i+1+s.1/\∀j,i+1+s.1<=j->s.2.2[j]?=xs[j]?,λs=>xs.length-s.1,(0,i+1,xs),?_,?_,?_⟩
 .have e:=zpF B o k;refine⟨oN,rfl,?_,?_,oN,λj _=>rfl⟩
  .show xs.take (i+1)=dd xs (i+0+2);rw[show i+0+2=i+2 from rfl,e,D]
  show i+1=(dd xs (i+0+2)).length;rw[show i+0+2=i+2 from rfl,e,D,Xo];omega
 .exact zP [0] ⟨rfl,iR (show((i+1:Nat):Int)=(i:Int)+1 by omega).symm,rfl,rfl,tV⟩ ⟨rfl,tV⟩
 rintro⟨m,q,A⟩ ⟨T,M,F,N,U,C⟩
 dsimp only at T M F N U C;refine wb<|Br.mk (λn=>?_) (λn=>?_)
 .have n:(m:Int)+1<(xs.length:Int)-((i:Int)+1):=n;refine wc<|Ob.mk ⟨by ((try dsimp only);omega),by ((try dsimp only);omega),n⟩<|wb11 λy K=>?_
  have v:A[i+m+2]?=some y:=by
   have h:A[((i:Int)+1+((m:Int)+1)).toNat]?=some y:=K
   rwa [show((i:Int)+1+((m:Int)+1)).toNat=i+m+2 by omega]at h
  have w:xs[i+m+2]?=some y:=by rw[←C _ oM];exact v
  refine wa<|wb23<|wb11 λu H=>?_
  have I:A[i+m+1]?=some u:=by
   have h:A[((i:Int)+1+((m:Int)+1-1)).toNat]?=some u:=H
   rwa [show((i:Int)+1+((m:Int)+1-1)).toNat=i+m+1 by omega]at h
  have r:xs[i+m+1]?=some u:=by rw[←C _ oM];exact I
  refine⟨λd=>?_,λd=>?_⟩
  .have d:¬u=y:=λh=>d (qm.2 h.symm)
   have e:=zlL r w d;refine Ob.mk ⟨by ((try dsimp only);omega),by ((try dsimp only);omega),n⟩<|wb11 λO hy''=>?_
   have ey:O=y:=by
    have h:A[((i:Int)+1+((m:Int)+1)).toNat]?=some O:=hy'';rw[show((i:Int)+1+((m:Int)+1)).toNat=i+m+2 by omega,v]at h;exact(Xl h).symm
   rw[ey];refine wb11<|wb11 λt _=>?_;refine⟨y,rfl,?_⟩;refine Ar.fit (by (try dsimp only);omega)<|wa ?_;have G:((q:Int)).toNat=q:=XT q
   refine⟨(m+1,q+1,A.set q y),⟨oN,by rw[XS];exact M,?_,?_,oN,λj E=>?_⟩,
    zP [0] ⟨rfl,iR (by (try dsimp only);omega),rfl,iR (by (try dsimp only);omega),tV⟩ ⟨aR (by rw[G]),tV⟩,oN⟩
   .show(A.set q y).take (q+1)=dd xs (i+m+1+2);rw[e,←F];have S:q<(A.set q y).length:=by rw[XS];omega
    rw[Xm,Jb (Xj q),List.getElem?_set_self oM];rfl
   .show q+1=(dd xs (i+m+1+2)).length;rw[e,Xq,←N];rfl
   show(A.set q y)[j]?=xs[j]?;have E:i+1+(m+1)<=j:=E;rw[List.getElem?_set_ne oM];exact C j oM
  have d:u=y:=(qm.1 (Xa.1 d)).symm;have e:=zpF r w d;refine wa ?_
  refine⟨(m+1,q,A),⟨oN,M,?_,?_,oN,λj E=>C j (by dsimp only at E;omega)⟩,
   zP [0] ⟨rfl,rfl,rfl,iR oM,tV⟩ ⟨rfl,tV⟩,oN⟩
  .show A.take q=dd xs (i+m+1+2);rw[e];exact F
  show q=(dd xs (i+m+1+2)).length;rw[e];exact N
 have n:¬(m:Int)+1<(xs.length:Int)-((i:Int)+1):=n;refine Sl.win (Ob.mk ⟨by ((try dsimp only);omega),by ((try dsimp only);omega),by ((try dsimp only);omega),by ((try dsimp only);omega)⟩ ?_);refine⟨zp,rfl,wb23 ?_⟩;have G:((q:Int)).toNat=q:=XT q
 have P:(A.take (q:Int).toNat++(List.replicate ((A.length:Int)-(q:Int)).toNat zp++A.drop ((q:Int).toNat+((A.length:Int)-(q:Int)).toNat))).length=A.length:=by
  simp only[Xq,Xo,Kq,KB];omega
 refine Sl.keep (Ob.mk ⟨rfl,by ((try dsimp only);omega),by ((try dsimp only);rw[P];omega)⟩ ?_);refine z6 ?_;dsimp only;rw[←zt2 (i:=i+m+2) oM,←F,G,KK (by rw[Xo];omega),Xi (by rw[Xo];omega)]
def zgh(h:p.cl=true):(zu p).pts=qk (qY p.pts):=by unfold zu;dsimp only;rw[Xe h]
def zlM(h:¬p.cl=true):(zu p).pts=qY p.pts:=by unfold zu;dsimp only;rw[Xc h]
def ziD(l:LU):(qY l).length<=l.length:=by
 rw[←zr0];have:=vG l []
 simpa using this
def zpG(h:(zu p).pts=q):LE (.agg [.sl ptE q,pr (p.cl=true)]) (wv (zu p)):=by
 subst h;exact .refl
def zho(p:Pl)(g:p.pts.length<=4096):CX 251 [wv p] (wv (zu p)):=by
 refine zc func251<|zb.fresh _ _ (zpn p.pts g) rfl (λ_ _=>rfl) (.inr (λ_ _=>rfl))<|zb.give [2] 0 [.own 0] [(0,.arr 28 ptE 2 p.pts)] [] (.sl ptE (qY p.pts)) (zxC p.pts g) LEs.refl rfl rfl rfl ⟨⟨_,rfl,rfl,tV⟩,tV⟩ rfl trivial ?_;have u:=ziD p.pts
 refine⟨LU,λq=>⟨[(1,.loc 0 0),(2,.loc 1 0),(3,.sl ptE q)],[(0,.box 193 [.sl ptE p.pts,pr (p.cl=true)]),(1,.box 193 [nS,.val (.bool false)])],2,36,0⟩,
  λq=>qk q=qk (qY p.pts)/\jH q/\q.length<=4096/\(¬p.cl=true->q=qY p.pts),λq=>q.length,qY p.pts,?_,?_,?_⟩
 .exact⟨rfl,uj _,oM,λ_=>rfl⟩
 .exact zf [0,1]
 rintro q ⟨j,n,v,t⟩
 refine wc<|Br.mk (λc=>?_) (λc=>?_);rotate_left
 .have c:¬p.cl=true:=c;exact zpG (by rw[zlM c,t c])
 have c:p.cl=true:=c;have fin:qk q=q->LE (.agg [.sl ptE q,pr (p.cl=true)]) (wv (zu p)):=λh=>zpG (by rw[zgh c,←j,h])
 intro o;refine⟨λm=>?_,λm=>?_⟩;rotate_left
 .have m:¬(1:Int)<q.length:=m;exact fin (zhm oM)
 have m:(1:Int)<q.length:=m;intro r;refine wa<|wb λz a=>?_
 have a:q[q.length-1]?=some z:=by
  have a:q[((q.length:Int)-1).toNat]?=some z:=a
  rwa [show((q.length:Int)-1).toNat=q.length-1 by omega]at a
 refine wb λf(e:q[0]?=some f)=>?_;refine⟨λk=>?_,λk=>?_⟩
 .have k:z=f:=qm.1 k;have d:=zhl (show 1<q.length by omega) a e k;intro s;refine wa<|Ob.mk ⟨⟨dC,oM,oM,oM⟩,λ_ _=>rfl⟩<|⟨q.take (q.length-1),⟨?_,?_,?_,λh=>absurd c h⟩,zP [0,1] ⟨rfl,rfl,Xg (λq=>some (SV.sl ptE q)) (by rw[show((q.length:Int)-1-0).toNat=q.length-1 by omega];rfl),tV⟩ ⟨rfl,rfl,tV⟩,?_⟩
  .rw[←d,ziC n,j]
  .rw[←d];exact zbF n
  .rw[Xo];omega
  show(q.take (q.length-1)).length<q.length;rw[Xo];omega
 have k:¬z=f:=λh=>k (qm.2 h)
 exact fin (zj2 a e k)
def zj3(p:Pl)(D:p.pts.length<=4096):CX 231 [wv p] (wv (zu p)):=by
 refine zah 1 tok mix func231 rfl rfl rfl<|⟨Pt,ptE,[],rfl,wb2 ?_⟩
 refine⟨Nat,λi=>⟨[(1,.loc 0 0),(2,.loc 1 0),(3,.loc 2 0),(4,i64 i)],
   [(0,.box 193 [.sl ptE p.pts,pr (p.cl=true)]),(1,.box 193 [nS,.val (.bool false)]),(2,.box 193 [.own 3,pr (p.cl=true)]),(3,.arr 28 ptE 2 (dd p.pts i))],4,74,0⟩,
  λi=>i<=p.pts.length,λi=>p.pts.length-i,0,?_,?_,?_⟩
 .exact Xh _
 .exact zf [0,1,3,2]
 rintro i hi
 have dl:=zGB p.pts i;intro o;refine⟨λg:(i:Int)<p.pts.length=>?_,λg:¬(i:Int)<p.pts.length=>?_⟩
 .obtain⟨x,j⟩:∃x,p.pts[i]?=some x:=⟨_,Xb oM⟩;have same:∀{y:Pt},p.pts[(i:Int).toNat]?=some y->y=x:=λh=>Xl ((show p.pts[i]?=some _ from h).symm.trans j)
  refine wd<|Br.mk (λz=>?_) (λz=>?_)
  .have z:(i:Int)=0:=z;refine wh<|wd<|wb λy d=>?_;rw[same d];refine⟨Pt,ptE,[x],rfl,wb0 ?_⟩;refine⟨[x],rfl,wb4 ?_⟩;refine wh<|wa ?_;have i0:i=0:=oM;subst i0;refine⟨1,oM,zt [0,1,2,5] ⟨rfl,rfl,rfl,aR ?_,tV⟩,oN⟩;rw[zhn j];rfl
  have z:¬(i:Int)=0:=z;obtain⟨n,rfl⟩:∃n,i=n+1:=⟨i-1,oM⟩;refine wb λy d=>?_;rw[same d];refine wa<|wb λu e=>?_
  have e:p.pts[n]?=some u:=by
   have h:p.pts[(((n+1:Nat):Int)-1).toNat]?=some u:=e
   rwa [show(((n+1:Nat):Int)-1).toNat=n by omega]at h
  refine wh<|⟨λk=>?_,λk=>?_⟩
  .have k:¬u=x:=λh=>k (qm.2 h.symm)
   refine wd<|wb λy d=>?_;rw[same d];refine⟨Pt,ptE,[x],rfl,wb0 ?_⟩;refine⟨[x],rfl,wb4 ?_⟩;refine wh<|wa<|⟨n+2,oM,zP [0,1,2,5] ⟨rfl,rfl,rfl,iR oM,tV⟩ ⟨rfl,rfl,rfl,aR ?_,tV⟩,oN⟩;rw[zlL e j k]
  have k:u=x:=(qm.1 (Xa.1 k)).symm;refine wa<|⟨n+2,oM,zP [0,1,2,3] ⟨rfl,rfl,rfl,iR oM,tV⟩ ⟨rfl,rfl,rfl,aR ?_,tV⟩,oN⟩;rw[zpF e j k]
 have C:=ziD p.pts
 refine⟨LU,λq=>⟨[(1,.loc 0 0),(2,.loc 1 0),(3,.loc 2 0)],
   [(0,.box 193 [.sl ptE p.pts,pr (p.cl=true)]),(1,.box 193 [nS,.val (.bool false)]),(2,.box 193 [.own 3,pr (p.cl=true)]),(3,.arr 28 ptE 2 q)],4,74,0⟩,
  λq=>qk q=qk (qY p.pts)/\jH q/\q.length<=4096/\(¬p.cl=true->q=qY p.pts),λq=>q.length,qY p.pts,?_,?_,?_⟩
 .exact⟨rfl,uj _,oM,λ_=>rfl⟩
 .exact zt [0,1,2,3] ⟨rfl,rfl,rfl,aR (zt2 oM),tV⟩
 rintro q ⟨t,v,E,B⟩
 refine wd<|Br.mk (λc=>?_) (λc=>?_);rotate_left
 .have c:¬p.cl=true:=c;exact wh<|zpG (by rw[zlM c,B c])
 have c:p.cl=true:=c;have fin:qk q=q->LE (.agg [.sl ptE q,pr (p.cl=true)]) (wv (zu p)):=λh=>zpG (by rw[zgh c,←t,h])
 intro o;refine⟨λm=>?_,λm=>?_⟩;rotate_left
 .have m:¬(1:Int)<q.length:=m;exact wh<|fin (zhm oM)
 have m:(1:Int)<q.length:=m;intro w;refine wa<|wb<|wb λz a=>?_
 have a:q[q.length-1]?=some z:=by
  have a:q[((q.length:Int)-1).toNat]?=some z:=a
  rwa [show((q.length:Int)-1).toNat=q.length-1 by omega]at a
 refine wb<|wb λf(s:q[0]?=some f)=>?_;refine wh<|⟨λk=>?_,λk=>?_⟩
 .have k:z=f:=qm.1 k;have r:=zhl (show 1<q.length by omega) a s k;intro A;refine wa<|Sl.keep (Ob.mk ⟨rfl,oM,oM⟩ ?_);refine⟨q.take (q.length-1),⟨?_,?_,?_,λh=>absurd c h⟩,zt [0,1,2,4] ⟨rfl,rfl,rfl,aR (by rw[show((q.length:Int)-1).toNat=q.length-1 by omega]),tV⟩,?_⟩
  .rw[←r,ziC v,t]
  .rw[←r];exact zbF v
  .rw[Xo];omega
  show(q.take (q.length-1)).length<q.length;rw[Xo];omega
 have k:¬z=f:=λh=>k (qm.2 h)
 exact fin (zj2 a s k)
end Go.Gs
