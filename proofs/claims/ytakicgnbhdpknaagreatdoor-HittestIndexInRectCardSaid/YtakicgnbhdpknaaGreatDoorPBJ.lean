/- Dashes in the second text: the part between two distances. -/
import Derived.Test.YtakicgnbhdpknaaGreatDoorPBI
import Derived.Test.YtakicgnbhdpknaaGreatDoorPBF
set_option maxRecDepth 100000
set_option maxHeartbeats 8000000
set_option linter.all false
namespace Go.Gs
open Proofs.Tryz
open Go.Proofs
def zn3:∀{l:LU} {i:Nat},jH l->i+1<l.length->nth l i≠nth l (i+1)
 |[],_,_,h=>by cases h
 |[_],i,_,h=>by simp at h
 |a::b::r,0,h,_=>h.1 b rfl
 |a::b::r,i+1,h,c=>zn3 (l:=b::r) (i:=i) h.2 (by simpa using c)
def zue(p:Pl):jH (zi p):=by
 have b:jH (zu p).pts:=by
  unfold zu;dsimp only
  split
  .exact zbF (uj _)
  exact uj _
 rw[yM]
 by_cases h:(zu p).cl=true/\2<=(zu p).pts.length
 .rw[zhs h.1 h.2];refine zf9 b λe=>?_
  have c:p.cl=true:=h.1;have a:=zgh c;have ht:=znA (l:=qY p.pts) (uj _) (by rw[←a];omega);rw[←a,e]at ht;refine ht ?_;unfold nth;rw[Xr,Js,Xb (show 0<(zu p).pts.length by omega)];rfl
 rw[zpK h];exact b
variable{p:Pl}{i:Nat}
def zhv(h:∀q∈p.pts,zm q)(hi:i<(zi p).length):zm (nth (zi p) i):=h _ (zAv (zvA hi))
def zvR(h:∀q∈p.pts,zm q)(hi:i+1<(zi p).length):1<=ji (nth (zi p) i) (nth (zi p) (i+1)):=
 zxS (zhv h oM) (zhv h hi) (zn3 (zue p) hi)
def zbJ(c:LU)(i:Nat):atS c (i+1)=atS c i+ji (nth c i) (nth c (i+1)):=rfl
def zvS(h:∀q∈p.pts,zm q){t:Int}(hi:i+1<(zi p).length)(g:atS (zi p) i<t)(j:t<=atS (zi p) (i+1)):
  zdJ (zi p) t=uK (nth (zi p) i) (nth (zi p) (i+1)) (t-atS (zi p) i) (ji (nth (zi p) i) (nth (zi p) (i+1))):=by
 have pr:=yz (nth (zi p) i) (nth (zi p) (i+1));have sp:=zvR h hi
 by_cases c:t<atS (zi p) (i+1)
 .exact zpP oM oM c
 have e:t=atS (zi p) (i+1):=oM
 by_cases a:i+2<(zi p).length
 .have d:=zvR h (i:=i+1) a;have b:=yz (nth (zi p) (i+1)) (nth (zi p) (i+1+1));rw[zpP (i:=i+1) oM oM (by rw[zbJ (zi p) (i+1)];omega),e,Int.sub_self,zxQ oM (zhv h hi)];rw[show atS (zi p) (i+1)-atS (zi p) i=ji (nth (zi p) i) (nth (zi p) (i+1)) by rw[zbJ];omega,zxR oM (zhv h oM) (zhv h hi)]
 unfold zdJ;rw[show(zi p).length-2=i by omega,zlQ oM];dsimp only;rw[show atS (zi p) (i+1)-atS (zi p) i=ji (nth (zi p) i) (nth (zi p) (i+1)) by rw[zbJ];omega]
def zsm{c:LU}{f t:Int}:∀{n:Nat},(∀j,j<n->¬f<atS c j)->zfH c f t n=[]
 |0,_=>rfl
 |n+1,h=>by rw[zfh,zsm λj a=>h j oM,Xc λk=>h n oM k.1];rfl
def zuf(c:LU)(f t:Int)(i:Nat):LU:=(if f<atS c i then[zdJ c f] else[])++zfH c f t i++(if t<=atS c i then[zdJ c t] else[])
def zjH(c:LU)(f t:Int)(i:Nat):LU:=ky [] (zuf c f t i)
variable{f:Int}
def zxT(h:∀q∈p.pts,zm q){t:Int}(hi:i+1<(zi p).length)(a:f<t):
  zjH (zi p) f t (i+1)=ky (zjH (zi p) f t i)
   ((if¬f<atS (zi p) i/\f<atS (zi p) (i+1) then[uK (nth (zi p) i) (nth (zi p) (i+1)) (f-atS (zi p) i) (ji (nth (zi p) i) (nth (zi p) (i+1)))] else[])++
    (if f<atS (zi p) i/\atS (zi p) i<t then[nth (zi p) i] else[])++
    (if atS (zi p) i<t/\t<=atS (zi p) (i+1) then[uK (nth (zi p) i) (nth (zi p) (i+1)) (t-atS (zi p) i) (ji (nth (zi p) i) (nth (zi p) (i+1)))] else[])):=by
 have mono:=zlU (c:=zi p) (show i<=i+1 by omega);have key:∀A B,ky [] (A++B)=ky (ky [] A) B:=λA B=>by unfold ky;rw[KT]
 unfold zjH;rw[←key];congr 1;unfold zuf;rw[zfh]
 by_cases F:f<atS (zi p) i
 .rw[Xe F,Xe (show f<atS (zi p) (i+1) by omega),Xc (show¬(¬f<atS (zi p) i/\f<atS (zi p) (i+1)) from λk=>k.1 F)]
  by_cases T:t<=atS (zi p) i
  .rw[Xe T,Xe (show t<=atS (zi p) (i+1) by omega),Xc (show¬(f<atS (zi p) i/\atS (zi p) i<t) by omega),Xc (show¬(atS (zi p) i<t/\t<=atS (zi p) (i+1)) by omega)];simp
  rw[Xc T,Xe (show f<atS (zi p) i/\atS (zi p) i<t by omega)]
  by_cases T2:t<=atS (zi p) (i+1)
  .rw[Xe T2,Xe (show atS (zi p) i<t/\t<=atS (zi p) (i+1) by omega),zvS h hi oM T2];simp
  rw[Xc T2,Xc (show¬(atS (zi p) i<t/\t<=atS (zi p) (i+1)) by omega)];simp
 have mn:zfH (zi p) f t i=[]:=zsm λj b k=>F (by have:=zlU (c:=zi p) (show j<=i by omega);omega)
 rw[Xc F,mn,Xc (show¬(f<atS (zi p) i/\atS (zi p) i<t) by omega),Xc (show¬t<=atS (zi p) i by omega)]
 by_cases F2:f<atS (zi p) (i+1)
 .rw[Xe F2,Xe (show¬f<atS (zi p) i/\f<atS (zi p) (i+1) by omega),zpP (i:=i) oM F F2]
  by_cases T2:t<=atS (zi p) (i+1)
  .rw[Xe T2,Xe (show atS (zi p) i<t/\t<=atS (zi p) (i+1) by omega),zvS h hi oM T2];simp
  rw[Xc T2,Xc (show¬(atS (zi p) i<t/\t<=atS (zi p) (i+1)) by omega)];simp
 rw[Xc F2,Xc (show¬(¬f<atS (zi p) i/\f<atS (zi p) (i+1)) by omega),Xc (show¬t<=atS (zi p) (i+1) by omega),Xc (show¬(atS (zi p) i<t/\t<=atS (zi p) (i+1)) by omega)];simp
def zBf{t:Int}(a:f<t)(ht:t<=zL p):zjH (zi p) f t ((zi p).length-1)=vp (zi p) f t:=by
 have e:atS (zi p) ((zi p).length-1)=zL p:=rfl;unfold zjH zuf vp;rw[Xe (show f<atS (zi p) ((zi p).length-1) by omega),Xe (show t<=atS (zi p) ((zi p).length-1) by omega)]
def zBg(c:LU)(f t:Int)(i:Nat):(zjH c f t i).length<=i+2:=by
 have h:=vG (zuf c f t i) []
 have d:(zfH c f t i).length<=i:=by
  unfold zfH;rw[Xw];exact XB (Qb _ _) sI
 unfold zjH
 have a:(zuf c f t i).length<=i+2:=by
  unfold zuf;rw[Xq,Xq]
  split <;> split <;> simp <;> omega
 have b:([]:LU).length=0:=rfl;omega
def zDL(p:Pl)(f t:Int)(v:p.pts.length<=4096)(ok:∀q∈p.pts,zm q)(B:0<=f)(r:f<t)(ht:t<=zL p):
  CX 232 [wv p,i64 f,i64 t] (wv ⟨vp (zi p) f t,false⟩):=by
 refine zc func232 ?_;have lr:=zgl p v;have dl:=jx p;have ll:=jK (zu p);rw[←yM]at ll;refine wg (zsh p v ok) ?_;have w:zdF 0 [zb9 f [zL p]]=f:=show max 0 (min f (zL p))=f by omega
 have z:zdF 0 [zb9 t [zL p]]=t:=show max 0 (min t (zL p))=t by omega
 refine⟨λh=>absurd (show zdF 0 [zb9 t [zL p]]<=zdF 0 [zb9 f [zL p]] from h) oM,λ_=>?_⟩;refine wg (zBa p v)<|⟨Pt,ptE,[],rfl,wb2 ?_⟩;refine⟨Nat,λi=>⟨[(6,.loc 0 0),(8,i64 f),(9,i64 t),(10,.sl ptE (zi p)),(11,.own 1),(12,i64 (atS (zi p) i)),(13,i64 ((i:Int)+1))],[(0,.box 193 [nS,.val (.bool false)]),(1,.arr 28 ptE 2 (zjH (zi p) f t i))],2,120,0⟩,λi=>i<=(zi p).length-1,λi=>(zi p).length-i,0,?_,?_,?_⟩
 .exact Xh _
 .refine zP [1,2] ⟨rfl,iR w,iR z,rfl,rfl,rfl,rfl,tV⟩ ⟨rfl,aR ?_,tV⟩;unfold zjH zuf;rw[show atS (zi p) 0=0 from rfl,Xc oM,Xc oM];rfl
 rintro i hi
 have ar:=zaj (zi p) i;have sl:=zBg (zi p) f t i;intro A;refine⟨λg=>?_,λg=>?_⟩;rotate_left
 .have g:¬(i:Int)+1<(zi p).length:=g;refine jp (.cons (z6 ?_) (.cons (zd (show¬(false=true) by decide)) .nil));rw[show i=(zi p).length-1 by omega,zBf r ht]
 have g:(i:Int)+1<(zi p).length:=g;have u:i+1<(zi p).length:=oM;have key:=zxT ok u r;rw[zbJ]at key;refine wc<|wa<|wb λx c=>?_
 have c:=qu (show(zi p)[i]?=some x by
  have c:(zi p)[((i:Int)+1-1).toNat]?=some x:=c
  rwa [show((i:Int)+1-1).toNat=i by omega]at c)
 have e:∀x',(zi p)[((i:Int)+1-1).toNat]?=some x'->x'=x:=λx' h=>by
  rw[show((i:Int)+1-1).toNat=i by omega]at h;exact(qu h).trans c.symm
 refine wb λy j=>?_;have j:=qu (show(zi p)[i+1]?=some y from j);have s:∀d,(zi p)[((i:Int)+1).toNat]?=some d->d=y:=λd h=>(qu (show(zi p)[i+1]?=some d from h)).trans j.symm
 refine wg (zvP x y) ?_;have pr:=yz x y;rw[←c,←j]at key;refine⟨λl=>?_,λl=>?_⟩;have l:atS (zi p) i<=f:=l;refine wa<|Br.mk (λm=>?_) (λm=>?_);have m:f<atS (zi p) i+ji x y:=m;refine wd<|wa<|wb λx' a=>?_;have a:=e x' a;refine wb λd b=>?_;have b:=s d b;rw[a,b];refine wa<|wg (zz6 x y (f-atS (zi p) i) (ji x y))<|zb.fresh _ _ (zud _ (uK x y (f-atS (zi p) i) (ji x y)) oM) rfl (λ_ _=>rfl) (.inr (λ_ _=>rfl)) ?_
 refine wh ?_;have C:=zhj (zjH (zi p) f t i) (uK x y (f-atS (zi p) i) (ji x y));refine⟨λk=>absurd (show f<atS (zi p) i from k) oM,λ_=>?_⟩;rotate_left;have m:¬f<atS (zi p) i+ji x y:=m;refine⟨λk=>absurd (show f<atS (zi p) i from k) oM,λ_=>?_⟩;rotate_left;have l:¬atS (zi p) i<=f:=l;refine⟨λk=>?_,λk=>absurd (show f<atS (zi p) i by omega) k⟩;refine⟨λn=>?_,λn=>?_⟩;have n:atS (zi p) i<t:=n;refine wa<|wb λx' a=>?_
 have a:=e x' a;rw[a];have D:=zhj (zjH (zi p) f t i) x;refine zb.fresh _ _ (zud (zjH (zi p) f t i) x oM) rfl (λ_ _=>rfl) (.inr (λ_ _=>rfl)) ?_;rotate_left;have n:¬atS (zi p) i<t:=n;rotate_left
 all_goals
  refine⟨λc1=>?_,λc1=>?_⟩;have c1:atS (zi p) i<t:=c1;refine wa<|Br.mk (λo=>?_) (λo=>?_);have o:t<=atS (zi p) i+ji x y:=o;refine wd<|wa<|wb λx' a=>?_;have a:=e x' a;refine wb λd b=>?_;have b:=s d b;rw[a,b];refine wa<|wg (zz6 x y (t-atS (zi p) i) (ji x y))<|zb.fresh _ _ (zud _ (uK x y (t-atS (zi p) i) (ji x y)) oM) rfl (λ_ _=>rfl) (.inr (λ_ _=>rfl))<|wh ?_;rotate_left
  have o:¬t<=atS (zi p) i+ji x y:=o;rotate_left;have c1:¬atS (zi p) i<t:=c1
  all_goals
   (iterate 2 refine wa ?_);refine⟨i+1,oM,?_,oN⟩;have E:=key
   split at E <;> split at E <;> split at E <;> first
    |(exfalso;omega)
    |exact zP [0,1] ⟨rfl,rfl,rfl,rfl,rfl,iR (by rw[zbJ,←c,←j]),iR oM,tV⟩ ⟨rfl,aR E.symm,tV⟩
    |exact zP [0,2] ⟨rfl,rfl,rfl,rfl,rfl,iR (by rw[zbJ,←c,←j]),iR oM,tV⟩ ⟨rfl,aR E.symm,tV⟩
    |exact zP [0,3] ⟨rfl,rfl,rfl,rfl,rfl,iR (by rw[zbJ,←c,←j]),iR oM,tV⟩ ⟨rfl,aR E.symm,tV⟩
variable{pen:Pen}
def zxU{long:Int}{q:Nat×Nat}(h:q∈kS pen long)(b:q.1=0)(c:(q.2:Int)=long):kS pen long=[q]:=by
 unfold kS at h ⊢
 split at h
 .cases h
 rename_i k;rw[Xc k]
 split at h
 .rename_i a;rw[Xe a];have:=Xu.1 h;rw[this]
 rename_i a;rw[Xc a];exact zDk h b oM
def zmS(p:Pl)(q:Nat×Nat):Pl:=⟨vp (zi p) q.1 q.2,false⟩
def zBh(h:¬(p.cl=true/\qL pen (zL p)=[(0,(zL p).toNat)]))(hR:qL pen (zL p)=kS pen (zL p)):
  (kS pen (zL p)).map (j7 p)=(kS pen (zL p)).map (zmS p):=by
 refine KR λq a=>?_
 unfold j7;refine Xc λk=>h ⟨k.1,?_⟩
 rw[hR,zxU a k.2.1 k.2.2,←k.2.1,show(zL p).toNat=q.2 by omega]
def zex(p:Pl)(pen:Pen)(j:Nat):Nat:=js (((qL pen (zL p)).take j).map (zmS p))
def zxV{j:Nat}{y:Nat×Nat}(h:(qL pen (zL p))[j]?=some y):zex p pen (j+1)=zex p pen j+(zmS p y).pts.length:=by
 unfold zex;rw[Xm,h,XA,zhu];show _+js [zmS p y]=_;unfold js;simp
def zDM(p:Pl)(pen:Pen)(j:Nat):zex p pen j<=js ((qL pen (zL p)).map (zmS p)):=by
 have e:(qL pen (zL p)).map (zmS p)=((qL pen (zL p)).take j).map (zmS p)++((qL pen (zL p)).drop j).map (zmS p):=by
  rw[←XA,Kr]
 rw[e,zhu];exact Q4 _ _
def zDN(p:Pl)(pen:Pen)(j:Nat):((qL pen (zL p)).take j).length<=zex p pen j:=by
 have:=zfj (l:=((qL pen (zL p)).take j).map (zmS p)) λx a=>by
  obtain⟨q,b,rfl⟩:=XN.1 a;exact(zpO (zi p) q.1 q.2).1
 rwa [Xw]at this
def zGK(p:Pl)(pen:Pen)(s:p.pts.length<=4096):CX 157 [wv p,ws pen] (zpE (jC p pen)):=by
 refine zc func157 ?_
 have m:jC p pen=if¬kE pen then([],13) else if¬∀q∈p.pts,zm q then([],6) else if 4096<p.pts.length then([],5)
  else if pen.d=[] then([zu p],0) else if 4096<js ((kS pen (zL p)).map (j7 p)) then([],5) else((kS pen (zL p)).map (j7 p),0):=rfl
 refine wg (zc9 pen)<|⟨λk=>?_,λk=>?_⟩
 .have k:¬kE pen:=k;exact jv (by rw[m,Xe k])
 have k:kE pen:=Xa.1 k;rw[kI k]at m;refine wg (zvO p.pts)<|⟨λok=>?_,λok=>?_⟩
 .have ok:¬∀q∈p.pts,zm q:=ok;exact jv (by rw[m,Xe ok])
 have ok:∀q∈p.pts,zm q:=Xa.1 ok;rw[kI ok,Xc (show¬4096<p.pts.length by omega)]at m;intro L;refine⟨λh=>absurd (show(4096:Int)<p.pts.length from h) oM,λ_=>?_⟩;have lr:=zgl p s;have dl:=jx p;have ll:=jK (zu p);rw[←yM]at ll;refine wg (zsh p s ok)<|wg (zGJ pen (zL p) k oM) ?_;have v:=zsj pen (zL p);have rl:=zlT (qL pen (zL p));intro M
 have whole:pen.d=[]∨(p.cl=true/\qL pen (zL p)=[(0,(zL p).toNat)])->jC p pen=([zu p],0):=λh=>by
  by_cases z:pen.d=[]
  .rw[m,Xe z]
  obtain⟨c,e⟩:=h.resolve_left z
  have eP:kS pen (zL p)=[(0,(zL p).toNat)]:=by
   rcases v.1 with h|h
   .rw[←h,e]
   rw[e]at h;exact absurd h.1 sI
  have q1:=v.2 (0,(zL p).toNat) (by rw[e];exact .head _)
  have t:(kS pen (zL p)).map (j7 p)=[zu p]:=by
   rw[eP];show[j7 p (0,(zL p).toNat)]=_;unfold j7;rw[Xe ⟨c,rfl,oN⟩]
  rw[m,Xc z,t,Xc];unfold js;simp;omega
 have W:LE (.tup [.sl plE [zu p],i64 0]) (zpE ([zu p],0)):=.refl;refine⟨λz:(pen.d.length:Int)=0=>?_,λz:¬(pen.d.length:Int)=0=>?_⟩
 .have z:pen.d=[]:=Xp oM;refine wg (zj3 p s)<|⟨Pl,plE,[zu p],rfl,wb0 ?_⟩;rw[whole (.inl z)];exact W
 rw[Xc (λh=>z (by rw[h];rfl))]at m
 have r:∀u,(rI (qL pen (zL p)))[0]?=some u->((rI (qL pen (zL p))).length:Int)=1->(u.1=0/\u.2=zL p↔qL pen (zL p)=[(0,(zL p).toNat)]):=λu w j=>by
  obtain⟨q,n,y⟩:=zBb w;have j:(qL pen (zL p)).length=1:=oM;obtain⟨T,F⟩:=Yn.1 j;rw[F]at n ⊢
  cases n
  constructor
  .rintro⟨a,b⟩
   rw[y]at a b;dsimp only at a b;rw[show q=(q.1,q.2) from rfl,show q.1=0 by omega,show q.2=(zL p).toNat by omega]
  intro h;have e:q=(0,(zL p).toNat):=List.singleton_inj.1 h;rw[y,e];exact⟨rfl,oN⟩
 refine⟨λc=>λN=>Br.mk (λj=>Ob.mk (by have j:((rI (qL pen (zL p))).length:Int)=1:=j;omega) λu w=>Br.mk (λe=>?_) (λe=>?_)) (λj=>?_),λc=>?_⟩
 .have e:u.1=0/\u.2=zL p/\True:=e;refine wg (zj3 p s)<|⟨Pl,plE,[zu p],rfl,wb0 ?_⟩;rw[whole (.inr ⟨c,(r u w j).1 ⟨e.1,e.2.1⟩⟩)];exact W
 all_goals
  have E:¬(p.cl=true/\qL pen (zL p)=[(0,(zL p).toNat)]):=by
   first
   |exact λh=>e ⟨((r u w j).2 h.2).1,((r u w j).2 h.2).2,tV⟩
   |exact λh=>j (show((rI (qL pen (zL p))).length:Int)=1 by rw[zlT,h.2];rfl)
   |exact λh=>c h.1
  have t:=zBh E
  have bad:∀i,4096<zex p pen i->jC p pen=([],5):=λi h=>by
   rw[m,Xe ?_]
   rcases v.1 with hR|hR
   .rw[t hR,←hR];exact Xx h (zDM p pen i)
   have:=zfj (l:=(kS pen (zL p)).map (j7 p)) λx Q=>by
    obtain⟨q,n,rfl⟩:=XN.1 Q;exact(zfi s n).1
   rw[Xw]at this;omega
  refine⟨Pl,plE,[],rfl,wb2 ?_⟩;refine⟨Nat,λi=>⟨[(2,.loc 0 0),(7,.sl ziM (rI (qL pen (zL p)))),(8,.own 1),(9,i64 (zex p pen i:Int)),(10,i64 i)],[(0,.box 193 [.sl ptE p.pts,pr (p.cl=true)]),(1,.arr 193 plE 2 (((qL pen (zL p)).take i).map (zmS p)))],2,83,0⟩,λi=>i<=(qL pen (zL p)).length/\zex p pen i<=4096,λi=>(qL pen (zL p)).length-i,0,?_,?_,?_⟩
  .exact⟨Xh _,Xh _⟩
  .exact zf [0,2]
  rintro i ⟨S,J⟩
  have cg:=zDN p pen i;intro O;refine⟨λg=>?_,λg=>?_⟩;rotate_left
  .have g:¬(i:Int)<((rI (qL pen (zL p))).length:Int):=g;have B:(qL pen (zL p)).take i=qL pen (zL p):=Xi oM;have hR:=v.1.resolve_right λh=>by rw[B]at cg;omega
   unfold zex at J;rw[B,hR,←t hR]at J;rw[m,Xc oM];exact zO (z6 (by rw[B,hR,t hR])) .refl
  have g:(i:Int)<((rI (qL pen (zL p))).length:Int):=g;refine wd<|wb λz K=>?_;obtain⟨q,n,A⟩:=zBb (show(rI (qL pen (zL p)))[i]?=some z from K);refine wb λR G=>?_;have H:R=z:=Xl (G.symm.trans K);rw[H];have f:=v.2 q (Xf n);have I:=zxV n;have cl:=zpO (zi p) q.1 q.2;have C:z.1=(q.1:Int):=by rw[A]
  have D:z.2=(q.2:Int):=by rw[A]
  have ez:vp (zi p) z.1 z.2=vp (zi p) q.1 q.2:=by rw[C,D]
  refine wg (zDL p z.1 z.2 s ok oM oM oM)<|wh ?_;have I:zex p pen (i+1)=zex p pen i+(vp (zi p) z.1 z.2).length:=by rw[ez];exact I
  rw[←ez]at cl;intro P;refine Ar.fit (show-9223372036854775808<=(zex p pen i:Int)+((vp (zi p) z.1 z.2).length:Int)/\(zex p pen i:Int)+((vp (zi p) z.1 z.2).length:Int)<=9223372036854775807 by omega)<|⟨λo=>?_,λo=>?_⟩
  .have o:(4096:Int)<(zex p pen i:Int)+((vp (zi p) z.1 z.2).length:Int):=o;exact jv (bad (i+1) oM)
  have o:¬(4096:Int)<(zex p pen i:Int)+((vp (zi p) z.1 z.2).length:Int):=o;refine⟨Pl,plE,[⟨vp (zi p) z.1 z.2,false⟩],rfl,wb0 ?_⟩;refine⟨[⟨vp (zi p) z.1 z.2,false⟩],rfl,Ob.mk ⟨(by show _*(32:Int)<=_;simp only[Xw,Xn,Xs];omega),(by simp only[Xw,Xn,Xs];omega),dC,λ_ _=>rfl⟩ ?_⟩;refine wa ?_
  exact⟨i+1,⟨oM,oM⟩,zP [0,4] ⟨rfl,rfl,rfl,iR (show(zex p pen i:Int)+((vp (zi p) z.1 z.2).length:Int)=((zex p pen (i+1):Nat):Int) by omega),rfl,tV⟩ ⟨rfl,aR (by rw[Xm,n,XA,ez];rfl),tV⟩,oN⟩
def jT:LZ->Pen->LZ×Int
 |[],_=>([],0)
 |p::r,pen=>if (jC p pen).2≠0 then([],(jC p pen).2)
  else if (jT r pen).2≠0 then([],(jT r pen).2) else((jC p pen).1++(jT r pen).1,0)
def zdg(l:LZ)(pen:Pen):LZ:=l.flatMap λp=>(jC p pen).1
def zn4{l:LZ}{x:Pl}(h:l[i]?=some x):zdg (l.take (i+1)) pen=zdg (l.take i) pen++(jC x pen).1:=by
 unfold zdg;rw[Xm,h,Qy];simp
def zlV{pen:Pen}:∀{l:LZ},(∀p∈l,(jC p pen).2=0)->jT l pen=(zdg l pen,0)
 |[],_=>rfl
 |p::r,h=>by
  have b:=zlV λq a=>h q (.tail _ a)
  unfold jT;rw[qK (h p (.head _)),b];rfl
def ziN{pen:Pen}:∀{l:LZ} {i:Nat} {x:Pl},l[i]?=some x->(∀p∈l.take i,(jC p pen).2=0)->¬(jC x pen).2=0->jT l pen=([],(jC x pen).2)
 |p::r,0,x,h,_,a=>by
  cases h
  unfold jT;rw[Xe a]
 |p::r,i+1,x,h,b,a=>by
  have d:=ziN (l:=r) (i:=i) h (λq c=>b q (by rw[Kt];exact .tail _ c)) a;unfold jT;rw[qK (b p (by rw[Kt];exact .head _)),d];exact Xe a
def zlW:∀{l:LZ} {q:Pl},q∈l->q.pts.length<=js l
 |x::r,q,h=>by
  have e:js (x::r)=x.pts.length+js r:=by unfold js;simp
  rw[e]
  cases h with
  |head=>omega
  |tail _ h=>have:=zlW h;omega
def zb2{p:Pl}{pen:Pen}(b:p.pts.length<=4096):(jC p pen).1.length<=4096/\∀q∈(jC p pen).1,q.pts.length<=4096:=by
 unfold jC
 split
 .exact⟨Xh _,λq a=>by cases a⟩
 split
 .exact⟨Xh _,λq a=>by cases a⟩
 split
 .exact⟨Xh _,λq a=>by cases a⟩
 split
 .refine⟨by show 1<=4096;decide,λq a=>?_⟩;rw[Xu.1 a];have:=jx p;omega
 split
 .exact⟨Xh _,λq a=>by cases a⟩
 rename_i h
 have d:=zfj (l:=(kS pen (zL p)).map (j7 p)) λx c=>by
  obtain⟨q,a,rfl⟩:=XN.1 c;exact(zfi b a).1
 refine⟨oN,λq a=>?_⟩;have a:q∈(kS pen (zL p)).map (j7 p):=a;have:=zlW a;omega
def zgn{pen:Pen}:∀{l:LZ},(∀p∈l,p.pts.length<=4096)->(zdg l pen).length<=4096*l.length/\∀q∈zdg l pen,q.pts.length<=4096
 |[],_=>⟨Xj 0,λq a=>by cases a⟩
 |p::r,b=>by
  obtain⟨h,d⟩:=zgn (pen:=pen) (l:=r) λq a=>b q (.tail _ a)
  obtain⟨g,c⟩:=zb2 (pen:=pen) (b p (.head _));have e:zdg (p::r) pen=(jC p pen).1++zdg r pen:=rfl;rw[e,Xq,Xn];refine⟨oM,λq a=>?_⟩
  rcases Xt.1 a with a|a
  .exact c q a
  exact d q a
def zGL(l:LZ)(pen:Pen)(n:l.length<=4096)(h:∀q∈l,q.pts.length<=4096):CX 176 [.sl plE l,ws pen] (zpE (jT l pen)):=by
 refine zc func176 λk=>?_;refine⟨Nat,λi=>⟨[(3,.loc 0 0),(6,.own 1),(11,.sl plE l),(12,i64 l.length),(13,i64 i)],[(0,.box 61 (jg pen)),(1,.arr 193 plE 2 (zdg (l.take i) pen))],2,31,0⟩,λi=>i<=l.length/\∀q∈l.take i,(jC q pen).2=0,λi=>l.length-i,0,?_,?_,?_⟩
 .exact⟨Xh _,λq d=>by cases d⟩
 .exact zC [(0,some 0),(1,none)]
 rintro i ⟨m,b⟩
 obtain⟨j,_⟩:=zgn (pen:=pen) (l:=l.take i) λq d=>h q (XO d)
 rw[Xo]at j;refine⟨λg:(i:Int)<l.length=>?_,λg:¬(i:Int)<l.length=>?_⟩
 .refine wb λx(c:l[i]?=some x)=>?_;have a:=h x (Xf c);refine wg (zA9 x pen a)<|⟨λz=>?_,λz=>?_⟩
  .have z:¬(jC x pen).2=0:=z;exact jv (ziN c b z)
  have z:(jC x pen).2=0:=Xa.1 z;obtain⟨o,r⟩:=zb2 (pen:=pen) a;refine⟨(jC x pen).1,rfl,wb26 ?_⟩;exact wa<|⟨i+1,⟨oM,zhr c b z⟩,zt [0,3] ⟨rfl,aR (zn4 c).symm,tV⟩,oN⟩
 have e:l.take i=l:=Xi oM;rw[e]at b;rw[zlV b];exact zO (z6 (by rw[e])) .refl
def zxX{l:LX}{tol:Int}(h:¬(zY l tol).2=0):(zY l tol).1=[]:=by
 unfold zY at h ⊢
 split at h <;> rename_i a
 .rw[Xe a]
 rw[Xc a]
 split at h <;> rename_i b
 .rw[Xe b]
 rw[Xc b]
 split at h <;> rename_i c
 .rw[Xe c]
 rw[Xc c]
 split at h <;> rename_i d
 .rw[Xe d]
 exact absurd rfl h
def zb3(l:LX)(tol:Int):(zY l tol).1.length<=4096/\∀q∈(zY l tol).1,q.pts.length<=4096:=by
 by_cases h:(zY l tol).2=0
 .have d:valid l:=by
   refine Xa.1 λk=>?_
   unfold zY at h;rw[Xe k]at h;exact absurd h dC
  obtain⟨_,_,j,b⟩:=zjr (lo:=⟨-1048576,-1048576⟩) (hi:=⟨1048576,1048576⟩) h (λp c=>zAr d p c);have m:=zfj (l:=(zY l tol).1) λx g=>Kg λe=>(b x g).1 (Xp e)
  exact⟨oM,λq a=>by have:=zlW a;omega⟩
 rw[zxX h];exact⟨Xh _,λq a=>by cases a⟩
def zDP(l:LX)(t:AF)(tol:Int)(ht:t.le 100000)(c:l.length<=300):CX 117 [.sl sgE l,wo t,i64 tol] (rgE (yq l t tol)):=by
 refine zn6 2 1 tok mix func117 rfl rfl rfl func171 rfl rfl<|⟨_,_,rfl,?_⟩;refine⟨_,_,_,_,_,rfl,rfl,rfl,rfl,?_⟩;refine⟨_,rfl,rfl,rfl,?_⟩;refine wg (zDl l t ht c) ?_;have fs:=zb3 (trans t l).1 tol;refine⟨λa:¬(trans t l).2=0=>?_,λa=>?_⟩
 .refine⟨_,.refl,rfl,?_⟩;refine⟨λ_=>?_,λh=>absurd a h⟩;exact qJ (by unfold yq;rw[Xe a])
 have a:(trans t l).2=0:=Xa.1 a;refine wg (zAQ (trans t l).1 tol)<|wd<|wg (zAw (zY (trans t l).1 tol).1 fs.1 fs.2)<|wh<|⟨_,.refl,rfl,?_⟩;refine⟨λb:¬(zY (trans t l).1 tol).2=0=>?_,λb=>?_⟩
 .exact qJ (by unfold yq;rw[qK a,Xe b])
 have b:(zY (trans t l).1 tol).2=0:=Xa.1 b;have e:yq l t tol=(uC (zY (trans t l).1 tol).1,0):=by unfold yq;rw[qK a,qK b]
 rw[e];exact zO .refl (ze b)
def zpQ(l:LX)(t:AF)(tol:Int)(ht:t.le 100000):CX 107 [.sl sgE l,wo t,i64 tol] (rgE (yq l t tol)):=by
 refine zc func107<|wg (zBi l t ht) ?_;have fs:=zb3 (trans t l).1 tol;refine⟨λb:¬(trans t l).2=0=>?_,λb=>?_⟩
 .exact qJ (by unfold yq;rw[Xe b])
 have b:(trans t l).2=0:=Xa.1 b;refine wg (zAR (trans t l).1 tol)<|⟨λa=>?_,λa=>?_⟩
 .have a:¬(zY (trans t l).1 tol).2=0:=a;exact qJ (by unfold yq;rw[qK b,Xe a])
 have a:(zY (trans t l).1 tol).2=0:=Xa.1 a;refine wg (zAx (zY (trans t l).1 tol).1 fs.1 fs.2) ?_;have e:yq l t tol=(uC (zY (trans t l).1 tol).1,0):=by unfold yq;rw[qK b,qK a]
 rw[e];exact .refl
def zug(pen:Pen):(jC ⟨[],false⟩ pen).2=if kE pen then 0 else 13:=by
 have a:zL ⟨[],false⟩=0:=zrH dC;unfold jC
 by_cases k:kE pen
 .rw[kI k,Xe k,Xc (show¬¬∀q∈(⟨[],false⟩:Pl).pts,zm q from λh=>h λq b=>by cases b),Xc (show¬4096<(⟨[],false⟩:Pl).pts.length by decide),a]
  split
  .rfl
  rw[zsc (.inr dC)];rfl
 rw[Xe k,Xc k]
def zDQ(pen:Pen):CX 175 [.agg [nS,.val (.bool false)],ws pen] (zpE (jC ⟨[],false⟩ pen)):=
 (zA9 ⟨[],false⟩ pen (Xh _)).args (.cons (jp (.cons zD (.cons (zd (show¬(false=true) by decide)) .nil))) (.C .nil))
def vI:∀{l:LQ} {r:LU},r∈l->r.length<=qe l
 |x::s,r,h=>by
  rw[zhq]
  cases h with
  |head=>omega
  |tail _ h=>have:=vI h;omega
def zdK(t:AF):LU->Int
 |[]=>0
 |p::r=>if (ku t p).2≠0 then(ku t p).2 else zdK t r
def y9(t:AF)(l:LU):LU:=l.map λp=>(ku t p).1
def zdL(t:AF):LQ->Int
 |[]=>0
 |r::s=>if zdK t r≠0 then zdK t r else zdL t s
def yr(rs:LQ)(t:AF):LQ×Int:=
 if¬kB rs then([],12) else if zdL t rs≠0 then([],zdL t rs) else(rs.map (y9 t),0)
def zhx{t:AF}:∀{l:LU},(∀p∈l,(ku t p).2=0)->zdK t l=0
 |[],_=>rfl
 |p::r,h=>by unfold zdK;rw[qK (h p (.head _))];exact zhx λq a=>h q (.tail _ a)
def zhy{t:AF}:∀{l:LU} {i:Nat} {x:Pt},l[i]?=some x->(∀p∈l.take i,(ku t p).2=0)->¬(ku t x).2=0->zdK t l=(ku t x).2
 |p::r,0,x,h,_,a=>by cases h;unfold zdK;rw[Xe a]
 |p::r,i+1,x,h,b,a=>by
  unfold zdK;rw[qK (b p (by rw[Kt];exact .head _))];exact zhy (l:=r) (i:=i) h (λq c=>b q (by rw[Kt];exact .tail _ c)) a
def zpR{t:AF}:∀{l:LQ},(∀r∈l,zdK t r=0)->zdL t l=0
 |[],_=>rfl
 |p::r,h=>by unfold zdL;rw[qK (h p (.head _))];exact zpR λq a=>h q (.tail _ a)
def zhz{t:AF}:∀{l:LQ} {i:Nat} {x:LU},l[i]?=some x->(∀r∈l.take i,zdK t r=0)->¬zdK t x=0->zdL t l=zdK t x
 |p::r,0,x,h,_,a=>by cases h;unfold zdL;rw[Xe a]
 |p::r,i+1,x,h,b,a=>by
  unfold zdL;rw[qK (b p (by rw[Kt];exact .head _))];exact zhz (l:=r) (i:=i) h (λq c=>b q (by rw[Kt];exact .tail _ c)) a
def yu{α:Type}{P:α->Prop}{l:List α}{x:α}(h:l[i]?=some x)(b:∀p∈l.take i,P p)(c:P x):∀p∈l.take (i+1),P p:=by
 intro p a;rw[Xm,h]at a
 rcases Xt.1 a with a|a
 .exact b p a
 simp at a;rw[a];exact c
def yN(l:LQ):LN:=l.map zk
def vl(l:LQ):(yN l).length=l.length:=by unfold yN;simp
def zaD{c:List (Nat×Option Nat)}{l m:LQ}(e:l=m):
  (yN m).length=(yN l).length/\∀(j:Nat) x,(yN l)[j]?=some x->∃x',(yN m)[j]?=some x'/\ren.rens c x=some x':=by
 subst e;refine⟨rfl,λj x a=>⟨x,a,?_⟩⟩;unfold yN at a;rw[XD]at a
 cases b:l[j]? with
 |none=>rw[b]at a;cases a
 |some y=>rw[b]at a;cases a;rfl
def zhA{L:LQ}{q:LU}{a:Nat}:∀(i j:Nat) (x':LR) (s':SV),(yN (L++[q]))[i]?=some x'->x'[j]?=some s'->∃(x:LR) (s:SV),(yN L++[[.own a]])[i]?=some x/\x[j]?=some s/\(s'=s∨(s=.own a/\s'=.sl ptE q)):=by
 intro i j x' s' b c;have e:yN (L++[q])=yN L++[zk q]:=by unfold yN;rw[XA];rfl
 rw[e]at b;generalize yN L=R at*
 rcases Qv i R.length with h|h|h
 .rw[XL h]at b;exact⟨x',s',by rw[XL h];exact b,c,.inl rfl⟩
 .subst h;rw[Qz]at b
  cases b
  match j,c with
  |0,c=>cases c;exact⟨[.own a],.own a,Qz ..,rfl,.inr ⟨rfl,rfl⟩⟩
  |j+1,c=>cases c
 rw[XG (by simp;omega)]at b;cases b
def tS(rs:LQ)(t:AF):Nat->St
 |0=>⟨[(0,.sl zk rs),(3,.loc 0 0),(6,.val (.slice none 0 0)),(7,i64 ((0:Nat):Int))],[(0,.box 57 (afE t))],1,54,0⟩
 |i+1=>⟨[(0,.sl zk rs),(3,.loc 0 0),(6,.own 1),(7,i64 ((i+1:Nat):Int))],[(0,.box 57 (afE t)),(1,.garr 148 1 (yN ((rs.take (i+1)).map (y9 t))))],2,54,0⟩
def zDR(rs:LQ)(t:AF)(ht:t.le 100000)(L:rs.length<=100000):CG0 159 [.sl zk rs,wo t] [] (.tup [.own 0,i64 (yr rs t).2]) [(0,.arr 148 zk 1 (yr rs t).1)]:=by
 refine zfw tok mix func159 rfl rfl rfl ?_
 have bad:∀{e:Int},yr rs t=([],e)->zbn none (.tup [nS,i64 e]) (.tup [.own 0,i64 (yr rs t).2])/\(yr rs t).1=[]:=λ{e} h=>
  ⟨.tup _ _ rfl (zfz.ix (.cons (.nil rfl) (.cons (.le _ _ (ze (by rw[h])) rfl) .nil))).2,by rw[h]⟩
 refine wg (zhb rs)<|⟨λk=>?_,λk=>?_⟩
 .have k:¬kB rs:=k;have c:=bad (e:=12) (by unfold yr;rw[Xe k]);exact⟨_,.refl,none,c.1,c.2⟩
 have k:kB rs:=Xa.1 k;have v:yr rs t=if zdL t rs≠0 then([],zdL t rs) else(rs.map (y9 t),0):=by unfold yr;rw[kI k]
 have F:qe rs<=4096:=by have:=k.1;omega
 refine⟨Nat,tS rs t,λi=>i<=rs.length/\∀r∈rs.take i,zdK t r=0,λi=>rs.length-i,0,⟨Xh _,λr H=>by cases H⟩,zf [0],?_⟩
 rintro(_|i) ⟨K,s⟩
 .intro w;refine⟨λg=>?_,λg=>?_⟩;rotate_left
  .have g:¬(((0:Nat):Int))<rs.length:=g;have G:rs=[]:=Xp oM;have c:=bad (e:=0) (by rw[v,G];rfl);exact⟨_,.refl,none,c.1,c.2⟩
  have g:((0:Nat):Int)<rs.length:=g;obtain⟨x,d⟩:∃x,rs[0]?=some x:=⟨_,Xb oM⟩;have C:=XB (vI (Xf d)) F;have same:∀{y:LU},rs[((0:Nat):Int).toNat]?=some y->y=x:=λh=>Xl ((show rs[0]?=some _ from h).symm.trans d)
  refine⟨Nat,λj=>⟨[(0,.sl zk rs),(3,.loc 0 0),(6,nS),(7,i64 ((0:Nat):Int)),(8,.own 1),(9,i64 j)],[(0,.box 57 (afE t)),(1,.arr 28 ptE 2 (y9 t (x.take j)))],2,54,0⟩,λj=>j<=x.length/\∀p∈x.take j,(ku t p).2=0,λj=>x.length-j,0,⟨Xh _,λp B=>by cases B⟩,zC [(0,some 0),(1,none)],?_⟩
  rintro j ⟨I,m⟩
  have ml:(y9 t (x.take j)).length<=4096:=by unfold y9;rw[Xw,Xo];omega
  refine wb λy D=>?_;rw[same D];intro A;refine⟨λq:(j:Int)<x.length=>?_,λq:¬(j:Int)<x.length=>?_⟩
  .obtain⟨z,a⟩:∃z,x[j]?=some z:=⟨_,Xb oM⟩;refine wd<|wb λJ n=>?_;rw[same n];refine wb λu o=>?_;have ez:u=z:=Xl ((show x[j]?=some u from o).symm.trans a);rw[ez];refine wg (zcE t z ht)<|wh<|⟨λe=>?_,λe=>?_⟩
   .have e:¬(ku t z).2=0:=e;have eL:=zhy a m e;have eR:=zhz d s (by rw[eL];exact e);have c:=bad (e:=(ku t z).2) (by rw[v,eR,eL,Xe e]);exact⟨_,.refl,none,c.1,c.2⟩
   have e:(ku t z).2=0:=Xa.1 e;refine⟨Pt,ptE,[(ku t z).1],rfl,wb0 ?_⟩;refine⟨[(ku t z).1],rfl,wb4 ?_⟩;exact wa<|⟨j+1,⟨oM,yu a m e⟩,zt [0,4] ⟨rfl,aR (by unfold y9;rw[Xm,a,XA];rfl),tV⟩,oN⟩
  have etx:x.take j=x:=Xi oM;rw[etx]at m;refine⟨[[.own 1]],rfl,wb8 ?_⟩;refine wb27<|wa<|⟨0+1,⟨oM,yu d s (zhx m)⟩,(zc0 (sz0:=1) (T0:=148) 1 3 (enc:=ptE) (ys:=y9 t (x.take j)) rfl rfl (xs':=yN ([]++[y9 t (x.take j)])) (by rfl) (λz a=>?_) zhA).trans (zt [0,3] ⟨rfl,⟨_,rfl,zaD ?_⟩,tV⟩),oN⟩
  .unfold yN at a;obtain⟨b,_,rfl⟩:=XN.1 a;rfl
  rw[etx];rw[Xm,d];rfl
 intro w;refine⟨λg=>?_,λg=>?_⟩;rotate_left
 .have g:¬((i+1:Nat):Int)<rs.length:=g;have E:rs.take (i+1)=rs:=Xi oM;rw[E]at s;have er:yr rs t=(rs.map (y9 t),0):=by rw[v,zpR s];rfl
  refine⟨_,zgR 1 zk ((rs.take (i+1)).map (y9 t)) rfl (λ_ _=>rfl),some 1,.tup _ _ rfl (zfz.ix (.cons (.own 1 rfl) (.cons (.le _ _ (ze (by rw[er])) rfl) .nil))).2,aR (by rw[er,E]),λ_ _=>rfl⟩
 have g:(((i+1):Nat):Int)<rs.length:=g;obtain⟨x,d⟩:∃x,rs[(i+1)]?=some x:=⟨_,Xb oM⟩;have C:=XB (vI (Xf d)) F;have same:∀{y:LU},rs[(((i+1):Nat):Int).toNat]?=some y->y=x:=λh=>Xl ((show rs[(i+1)]?=some _ from h).symm.trans d)
 refine⟨Nat,λj=>⟨[(0,.sl zk rs),(3,.loc 0 0),(6,.own 1),(7,i64 (((i+1):Nat):Int)),(8,.own 2),(9,i64 j)],[(0,.box 57 (afE t)),(1,.garr 148 1 (yN ((rs.take (i+1)).map (y9 t)))),(2,.arr 28 ptE 2 (y9 t (x.take j)))],3,54,0⟩,λj=>j<=x.length/\∀p∈x.take j,(ku t p).2=0,λj=>x.length-j,0,⟨Xh _,λp B=>by cases B⟩,zdy [(0,some 0),(1,some 1),(2,none)] ⟨rfl,⟨_,rfl,zaD rfl⟩,rfl,tV⟩,?_⟩
 rintro j ⟨I,m⟩
 have ml:(y9 t (x.take j)).length<=4096:=by unfold y9;rw[Xw,Xo];omega
 refine wb λy D=>?_;rw[same D];intro A;refine⟨λq:(j:Int)<x.length=>?_,λq:¬(j:Int)<x.length=>?_⟩
 .obtain⟨z,a⟩:∃z,x[j]?=some z:=⟨_,Xb oM⟩;refine wd<|wb λJ n=>?_;rw[same n];refine wb λu o=>?_;have ez:u=z:=Xl ((show x[j]?=some u from o).symm.trans a);rw[ez];refine wg (zcE t z ht)<|wh<|⟨λe=>?_,λe=>?_⟩
  .have e:¬(ku t z).2=0:=e;have eL:=zhy a m e;have eR:=zhz d s (by rw[eL];exact e);have c:=bad (e:=(ku t z).2) (by rw[v,eR,eL,Xe e]);exact⟨_,.refl,none,c.1,c.2⟩
  have e:(ku t z).2=0:=Xa.1 e;refine⟨Pt,ptE,[(ku t z).1],rfl,wb0 ?_⟩;refine⟨[(ku t z).1],rfl,wb4 ?_⟩;exact wa<|⟨j+1,⟨oM,yu a m e⟩,zt [0,1,5] ⟨rfl,⟨_,rfl,zaD rfl⟩,aR (by unfold y9;rw[Xm,a,XA];rfl),tV⟩,oN⟩
 have etx:x.take j=x:=Xi oM;rw[etx]at m;refine⟨[[.own 2]],rfl,wb8 ?_⟩;refine Ob.mk ⟨by show _*(24:Int)<=_;rw[vl,Xw,Xo];simp only[Xn,Xs];omega,by rw[vl,Xw,Xo];simp only[Xn,Xs];omega,dC⟩<|wa ?_
 refine⟨(i+1)+1,⟨oM,yu d s (zhx m)⟩,(zc0 (sz0:=1) (T0:=148) 2 4 (enc:=ptE) (ys:=y9 t (x.take j)) rfl rfl (xs':=yN ((rs.take (i+1)).map (y9 t)++[y9 t (x.take j)])) (by rw[vl,Xq,Xq,vl];rfl) (λz a=>?_) zhA).trans (zt [0,4] ⟨rfl,⟨_,rfl,zaD ?_⟩,tV⟩),oN⟩
 .unfold yN at a;obtain⟨b,_,rfl⟩:=XN.1 a;rfl
 rw[etx];rw[Xm (l:=rs) (i:=i+1),d,XA];rfl
def zGN(rs:LQ)(t:AF)(ht:t.le 100000)(a:rs.length<=100000):CX 159 [.sl zk rs,wo t] (rgE (yr rs t)):=(zDR rs t ht a).plain rfl
def um(l:List AF):AF:=l.foldl beh idA
def zgo{l:List AF}{x:AF}(h:l[i]?=some x):um (l.take (i+1))=beh (um (l.take i)) x:=by
 unfold um;rw[Xm,h,KT];rfl
def zpS(l:List AF):Prop:=(∀t∈l,t.ok)/\∀i,i<l.length->(um (l.take (i+1))).ok
instance (l:List AF):Decidable (zpS l):=wi
def vJ(l:List AF):AF×Int:=if zpS l then(um l,0) else(qE,5)
def zDS:idA.nrm=idA:=by unfold idA AF.nrm afQ;simp only[kw]
def zlX{l:List AF}:∀{i:Nat},i<=l.length->(∀k,k<i->(um (l.take (k+1))).ok)->(um (l.take i)).le 8
 |0,_,_=>zzT.up dC
 |i+1,hi,h=>by
  have a:=h i oM;have b:l[i]?=some l[i]:=Xb oM;rw[zgo b]at a ⊢;exact zxa a
def zxY(l:List AF):(um l).nrm=um l:=by
 rcases Yz l with rfl|⟨q,x,rfl⟩
 .exact zDS
 unfold um;rw[List.concat_eq_append,KT];exact zpf _ _
def zuh(l:List AF)(m:∀t∈l,t.le 100):CX 170 [.sl afE l] (.tup [wo (vJ l).1,i64 (vJ l).2]):=by
 have bad:¬zpS l->LE (.tup [.agg uh,i64 5]) (.tup [wo (vJ l).1,i64 (vJ l).2]):=λh=>by
  rw[show vJ l=(qE,5) from Xc h];exact zO zcu .refl
 refine zc func170<|wg ztI λu=>?_
 refine⟨Nat,λi=>⟨[(12,i64 i),(11,i64 l.length),(10,.sl afE l),(4,.loc 1 0),(2,.loc 0 0),(0,.sl afE l)],[(1,.box 57 (afE idA)),(0,.box 57 uh)],2,37,0⟩,
  λi=>i<=l.length/\∀t∈l.take i,t.ok,λi=>l.length-i,0,⟨Xh _,λt ht=>by cases ht⟩,zf [0,1],?_⟩
 rintro i ⟨y,d⟩
 refine⟨λg:(i:Int)<l.length=>?_,λg:¬(i:Int)<l.length=>?_⟩
 .refine wb λx(b:l[i]?=some x)=>?_;have a:=Xf b;refine wg (zg1 x ((m x a).up dC))<|⟨λh=>bad λk=>h (k.1 x a),λh=>?_⟩;exact wa<|⟨i+1,⟨oM,yu b d (Xa.1 h)⟩,zf [0,1],oN⟩
 rw[Xi oM]at d;intro v
 refine⟨Nat,λi=>⟨[(23,i64 i),(22,i64 l.length),(21,.sl afE l),(4,.loc 1 0),(2,.loc 0 0)],[(1,.box 57 (afE (um (l.take i)))),(0,.box 57 uh)],2,37,0⟩,
  λi=>i<=l.length/\∀k,k<i->(um (l.take (k+1))).ok,λi=>l.length-i,0,⟨Xh _,λk h=>by omega⟩,zf [0,1],?_⟩
 rintro j ⟨w,o⟩
 have lj:=zlX w o;refine⟨λg:(j:Int)<l.length=>?_,λg:¬(j:Int)<l.length=>?_⟩
 .refine wb λx(b:l[j]?=some x)=>?_;have a:=Xf b;have e:=zgo b;refine wg (zzL (um (l.take j)) x (lj.up dC) ((m x a).up dC))<|wg (zg1 (beh (um (l.take j)) x) ((zzM (n:=100) (lj.up dC) (m x a)).up dC))<|⟨λh=>bad λk=>h (by rw[←e];exact k.2 j oM),λh=>?_⟩;have h:(beh (um (l.take j)) x).ok:=Xa.1 h;refine wa ?_
  refine⟨j+1,⟨oM,λk s=>?_⟩,zt [0,1] ⟨bR afE e.symm,rfl,tV⟩,oN⟩
  by_cases c:k=j
  .rw[c,e];exact h
  exact o k oM
 have r:l.take j=l:=Xi oM;refine wg (zrg (um (l.take j)) (lj.up dC)) ?_;rw[zxY];have q:vJ l=(um (l.take j),0):=by rw[r];exact Xe ⟨d,λk s=>o k oM⟩
 rw[q];exact zO .refl .refl
def zpT(l:List AF)(m:∀t∈l,t.le 100):CX 152 [.sl afE l] (.tup [wo (vJ l).1,i64 (vJ l).2]):=by
 have bad:¬zpS l->LE (.tup [.agg uh,i64 5]) (.tup [wo (vJ l).1,i64 (vJ l).2]):=λh=>by
  rw[show vJ l=(qE,5) from Xc h];exact zO zcu .refl
 refine zc func152<|wg za6 ?_
 refine⟨Nat,λi=>⟨[(5,i64 i),(4,.loc 1 0),(2,.loc 0 0),(0,.sl afE l)],[(1,.box 57 (afE (um (l.take i)))),(0,.box 57 uh)],2,31,0⟩,
  λi=>i<=l.length/\(∀t∈l.take i,t.ok)/\∀k,k<i->(um (l.take (k+1))).ok,λi=>l.length-i,0,⟨Xh _,(λt ht=>by cases ht),λk h=>by omega⟩,zf [0,1],?_⟩
 rintro j ⟨w,j0,o⟩
 have lj:=zlX w o;intro u;refine⟨λg:(j:Int)<l.length=>?_,λg:¬(j:Int)<l.length=>?_⟩
 .refine wb λx(b:l[j]?=some x)=>?_;have a:=Xf b;have e:=zgo b;refine wg (zct x ((m x a).up dC))<|⟨λh=>bad λk=>h (k.1 x a),λh=>?_⟩;refine wc<|wb λy v=>?_;have ey:y=x:=Xl ((show l[j]?=some y from v).symm.trans b);rw[ey];refine wg (zrj (um (l.take j)) x (lj.up dC) ((m x a).up dC))<|wg (zct (beh (um (l.take j)) x) ((zzM (n:=100) (lj.up dC) (m x a)).up dC)) ?_
  refine⟨λh=>bad λk=>h (by rw[←e];exact k.2 j oM),λd=>?_⟩;have d:(beh (um (l.take j)) x).ok:=Xa.1 d;refine wa<|⟨j+1,⟨oM,yu b j0 (Xa.1 h),λk s=>?_⟩,zt [0,1] ⟨bR afE e.symm,rfl,tV⟩,oN⟩
  by_cases c:k=j
  .rw[c,e];exact d
  exact o k oM
 have q:l.take j=l:=Xi oM;rw[q]at j0;have r:vJ l=(um (l.take j),0):=by rw[q];exact Xe ⟨j0,λk s=>o k oM⟩
 rw[r];exact zO .refl .refl
structure Nd where
 id:Int
 k:Int
 d:Int
 t:AF
 clip:LX
 cr:Int
 op:Int
 mode:Int
 iso:Bool
 ko:Bool
 path:LX
 rule:Int
 fill:LY
 pen:Pen
 strk:LY
 im:Img
 smp:Int
def ndE(n:Nd):LR:=
 i64 n.id::i64 n.k::i64 n.d::(afE n.t++(.sl sgE n.clip::i64 n.cr::u8 n.op::i64 n.mode::pr (n.iso=true)::pr (n.ko=true)::.sl sgE n.path::i64 n.rule::.sl yG n.fill::
  (jg n.pen++(.sl yG n.strk::(zlY n.im++[i64 n.smp])))))
structure Sc where
 w:Int
 h:Int
 bg:Pix
 ns:List Nd
def scE(s:Sc):LR:=[i64 s.w,i64 s.h,u8 s.bg.r,u8 s.bg.g,u8 s.bg.b,u8 s.bg.a,.sl ndE s.ns]
def zcF(n:Nd):Prop:=n.op=0/\n.mode=0/\n.iso=false/\n.ko=false
instance (n:Nd):Decidable (zcF n):=wi
def un(p:Pen):Prop:=p.w=0/\p.j=0/\p.c=0/\p.m=0/\p.d=[]/\p.ph=0
instance (p:Pen):Decidable (un p):=wi
def zdC(n:Nd):Prop:=n.path.length=0/\n.rule=0/\n.fill.length=0/\n.strk.length=0
instance (n:Nd):Decidable (zdC n):=wi
def zcG(n:Nd):Prop:=n.im.w=0/\n.im.h=0/\n.im.px.length=0/\n.smp=0
instance (n:Nd):Decidable (zcG n):=wi
def zdh(r:Int):Prop:=r=1∨r=2
instance (r:Int):Decidable (zdh r):=wj
def u9(n:Nd):Prop:=(n.clip.length=0/\n.cr=0)∨(0<n.clip.length/\zdh n.cr)
instance (n:Nd):Decidable (u9 n):=wj
def zhE(n:Nd):Prop:=u9 n/\(if n.k=1 then(zdC n/\un n.pen)/\zcG n else if n.k=2 then zcF n/\zcG n else zcF n/\zdC n/\un n.pen)
instance (n:Nd):Decidable (zhE n):=by unfold zhE;infer_instance
def vM(n:Nd):Int:=
 if¬valid n.path then 10 else if¬zdh n.rule then 2 else if 1<n.fill.length∨1<n.strk.length then 5 else if 0<n.strk.length/\¬kE n.pen then 13
 else if n.strk.length=0/\¬un n.pen then 17 else if (¬∀p∈n.fill,vL p)∨¬∀p∈n.strk,vL p then 16 else 0
def ua(n:Nd):Int:=
 if n.k<1∨3<n.k then 2 else if n.id<1∨1073741824<n.id∨n.d<0∨8<=n.d then 6 else if¬n.t.ok then 5 else if zbO n.t=0 then 9 else if¬valid n.clip then 10
 else if¬zhE n then 17 else if n.k=1 then(if¬(1<=n.mode/\n.mode<=13) then 2 else 0) else if n.k=2 then vM n
 else if¬zfM n.im then 16 else if n.smp≠1/\n.smp≠2 then 2 else 0
def jJ(l:List Nd)(i:Nat)(n:Nd):Prop:=match l[i-1]? with
 |some p=>if i=0 then n.d=0 else(p.k=1/\n.d=p.d+1)∨n.d<=p.d
 |none=>n.d=0
instance (l:List Nd) (i:Nat) (n:Nd):Decidable (jJ l i n):=by unfold jJ;split <;> infer_instance
def zhF(l:List Nd)(i:Nat)(n:Nd):Int:=
 if ua n≠0 then ua n else if n.id∈(l.take i).map Nd.id then 7 else if¬jJ l i n then 17 else 0
def yA(a:LV)(d:Int):Nat->Int
 |0=> -1
 |k+1=>if a[k]?=some d then k else yA a d k
def yl(a:LV)(i:Nat):Int:=yA a (a.getD i 0-1) i
def zcH(a:LV)(d:Int):∀k,-1<=yA a d k/\yA a d k<k/\(0<=yA a d k->a[(yA a d k).toNat]?=some d)
 |0=>⟨K9 _,show(-1:Int)<0 by decide,λh=>absurd (show(0:Int)<= -1 from h) dC⟩
 |k+1=>by
  have b:=zcH a d k;unfold yA
  split
  .rename_i h;exact⟨oM,oM,λ_=>by simpa using h⟩
  exact⟨b.1,oM,b.2.2⟩
def zoa{a:LV}{d:Int}:∀{k j:Nat},j<k->a[j]?=some d->0<=yA a d k
 |k+1,j,c,h=>by
  unfold yA
  split
  .omega
  rename_i b
  by_cases e:j=k
  .subst e;exact absurd h b
  exact zoa oM h
def zeB(c:LV):Prop:=(∀d,c[0]?=some d->d=0)/\(∀d∈c,0<=d)/\∀i a b,c[i]?=some a->c[i+1]?=some b->b<=a+1
def zob{b:LV}(h:zeB b){e:Int}(m:0<=e):∀{i:Nat} {d:Int},b[i]?=some d->e<d->∃j,j<i/\b[j]?=some e
 |0,d,g,n=>by have:=h.1 d g;omega
 |i+1,d,g,n=>by
  obtain⟨a,k⟩:∃a,b[i]?=some a:=⟨_,Xb (by have:=(Xd.1 g).1;omega)⟩;have q:=h.2.2 i a d k g
  by_cases c:a=e
  .exact⟨i,oM,by rw[k,c]⟩
  obtain⟨j,o,l⟩:=zob h m k oM;exact⟨j,oM,l⟩
def zhG{a:LV}(h:zeB a){d:Int}(g:a[i]?=some d):(d=0->yl a i= -1)/\(0<d->∃j:Nat,yl a i=j/\j<i/\a[j]?=some (d-1)):=by
 have m:a.getD i 0=d:=by rw[Xr,g];rfl
 unfold yl;rw[m];obtain⟨l,o,c⟩:=zcH a (d-1) i;refine⟨λe=>?_,λq=>?_⟩
 .subst e;refine JQ (JF.1 λk=>?_) l;have:=h.2.1 _ (Xf (c oM));omega
 obtain⟨j,n,b⟩:=zob h (show 0<=d-1 by omega) g oM;have:=zoa n b;exact⟨(yA a (d-1) i).toNat,oM,oM,c this⟩
def zgr(a:LV):Nat->Int->LC
 |0,_=>[]
 |n+1,i=>if i<0 then[] else i.toNat::zgr a n (yl a i.toNat)
abbrev wq(x:Sc):SV:=.agg (scE x)
abbrev ww(x:Nd):SV:=.agg (ndE x)
abbrev LW:=List Nd
end Go.Gs
