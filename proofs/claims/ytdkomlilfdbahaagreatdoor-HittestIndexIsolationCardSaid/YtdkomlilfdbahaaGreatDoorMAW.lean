/- The rings of a stroke, za the second text has them. -/
import Derived.Test.YtdkomlilfdbahaaGreatDoorMAV
set_option maxRecDepth 100000
set_option maxHeartbeats 80000000
set_option linter.all false
namespace Go.Gs
open Proofs.Tryz
open Go.Proofs
def vM(r:LU):(kS r).length<=1:=by unfold kS;split <;> simp
def zeA(l:LU)(w:Int)(n:Nat):LQ:=(List.range n).flatMap λi=>kS (j8 (nth l i) (nth l (i+1)) w)
def ziZ(l:LU)(w:Int)(n:Nat):zeA l w (n+1)=zeA l w n++kS (j8 (nth l n) (nth l (n+1)) w):=by
 unfold zeA;rw[KH,QA,Jw]
def zsy(l:LU)(w:Int)(n:Nat):(zeA l w n).length<=n:=by
 induction n with
 |zero=>exact Xj 0
 |succ n b=>
  rw[ziZ,Xr];have:=vM (j8 (nth l n) (nth l (n+1)) w);omega
def zaj(p:Pl)(pen:Pen):k7 p pen=zeA p.pts pen.w (p.pts.length-1)++
  (if p.cl=true/\1<p.pts.length then kS (j8 (nth p.pts (p.pts.length-1)) (nth p.pts 0) pen.w) else[]):=rfl
def zgy(p:Pl)(pen:Pen):(k7 p pen).length<=p.pts.length+1:=by
 rw[zaj,Xr];have b:=zsy p.pts pen.w (p.pts.length-1);have c:=vM (j8 (nth p.pts (p.pts.length-1)) (nth p.pts 0) pen.w)
 split
 .omega
 rw[Xo];omega
def zBA(p:Pl)(pen:Pen)(m:p.pts.length<=4096):CG0 351 [wv p,ws pen] [] (.own 0) [(0,.arr 156 zk 1 (k7 p pen))]:=by
 refine qf tok mix func351 rfl rfl rfl<|⟨LU,zk,[],rfl,wb2 ?_⟩;intro j;refine⟨Nat,λi=>⟨[(2,.loc 0 0),(3,.loc 1 0),(5,.own 2),(6,i64 p.pts.length),(7,i64 i)],[(0,.box 191 [.sl ptE p.pts,pr (p.cl=true)]),(1,.box 55 (jb pen)),(2,.arr 156 zk 1 (zeA p.pts pen.w i))],3,56,0⟩,λi=>i<=p.pts.length-1,λi=>p.pts.length-i,0,?_,?_,?_⟩
 .exact Xh _
 .exact zf [0,1,2]
 rintro i hi
 have bl:=zsy p.pts pen.w i;refine wa<|Br.mk (λg=>?_) (λg=>?_)
 .have g:(i:Int)+1<p.pts.length:=g;refine wd<|wb λx b=>?_;have b:=qx (show p.pts[i]?=some x from b);refine wa<|wb λy d=>?_;have d:=qx (show p.pts[i+1]?=some y from d);refine wg (zAS x y pen.w) ?_
  refine zb.give [2] 1 [.own 0,.sl ptE (j8 x y pen.w)] [(0,.arr 156 zk 1 (zeA p.pts pen.w i))] [(1,.arr 156 zk 1 (zeA p.pts pen.w i++kS (j8 x y pen.w)))] (.own 1) (ziY (zeA p.pts pen.w i) (j8 x y pen.w) oM)
   LEs.refl rfl rfl rfl ⟨⟨_,rfl,rfl,tV⟩,tV⟩ rfl ⟨⟨rfl,tV⟩,tV⟩ ?_
  refine wh<|wa ?_;refine⟨i+1,oM,zt [0,1,3] ⟨rfl,rfl,aR (by rw[ziZ,←b,←d]),tV⟩,oN⟩
 have g:¬(i:Int)+1<p.pts.length:=g;have ei:i=p.pts.length-1:=oM
 have no:¬(p.cl=true/\1<p.pts.length)->∃k,zbp k (.own 2) (.own 0)/\zzB [(0,.box 191 [.sl ptE p.pts,pr (p.cl=true)]),(1,.box 55 (jb pen)),(2,.arr 156 zk 1 (zeA p.pts pen.w i))] k (.arr 156 zk 1 (k7 p pen)):=λh=>by
  refine⟨some 2,.own _ rfl,aR ?_,λ_ _=>rfl⟩;rw[zaj,Xc h,ei,XE]
 refine⟨λc=>?_,λc=>no λh=>c h.1⟩;refine⟨λf=>?_,λf=>no λh=>f (show(1:Int)<p.pts.length by have:=h.2;omega)⟩
 have c:p.cl=true:=c;have f:(1:Int)<p.pts.length:=f;refine wd<|wa<|wb λx b=>?_;have b:=qx (show p.pts[((p.pts.length:Int)-1).toNat]?=some x from b);refine wb λy d=>?_;have d:=qx (show p.pts[0]?=some y from d);refine wg (zAS x y pen.w) ?_
 refine zb.give [2] 1 [.own 0,.sl ptE (j8 x y pen.w)] [(0,.arr 156 zk 1 (zeA p.pts pen.w i))] [(1,.arr 156 zk 1 (zeA p.pts pen.w i++kS (j8 x y pen.w)))] (.own 1) (ziY (zeA p.pts pen.w i) (j8 x y pen.w) oM)
  LEs.refl rfl rfl rfl ⟨⟨_,rfl,rfl,tV⟩,tV⟩ rfl ⟨⟨rfl,tV⟩,tV⟩ ?_
 refine wh<|⟨some 3,.own _ rfl,aR ?_,λ_ _=>rfl⟩;rw[zaj,Xe ⟨c,oM⟩,ei,b,d,show((p.pts.length:Int)-1).toNat=p.pts.length-1 by omega]
def zf0(p:Pl)(pen:Pen)(i:Nat):LQ:=if¬p.cl=true/\(i=0∨i=p.pts.length-1) then[]
  else jh (nth p.pts ((i+p.pts.length-1)%p.pts.length)) (nth p.pts i) (nth p.pts ((i+1)%p.pts.length)) pen
def yj(p:Pl)(pen:Pen)(n:Nat):LQ:=(List.range n).flatMap (zf0 p pen)
def zgz(p:Pl)(pen:Pen)(n:Nat):yj p pen (n+1)=yj p pen n++zf0 p pen n:=by
 unfold yj;rw[KH,QA,Jw]
def zcL(p:Pl)(pen:Pen):jo p pen=if p.pts.length<=1 then[] else yj p pen p.pts.length:=rfl
def zi0(a v b:Pt)(p:Pen):(jh a v b p).length<=1:=by
 unfold jh
 split
 .decide
 split
 .exact vM _
 split
 .decide
 exact vM _
def zyf(p:Pl)(pen:Pen)(i:Nat):(zf0 p pen i).length<=1:=by
 unfold zf0
 split
 .decide
 exact zi0 ..
def zi1(p:Pl)(pen:Pen)(n:Nat):(yj p pen n).length<=n:=by
 induction n with
 |zero=>exact Xj 0
 |succ n b=>
  rw[zgz,Xr];have:=zyf p pen n;omega
def zol(p:Pl)(pen:Pen):(jo p pen).length<=p.pts.length:=by
 rw[zcL]
 split
 .exact Xh _
 exact zi1 ..
def zyg{out rs:LQ}{i:Nat}{x:LU}(h:rs[i]?=some x):uA out (rs.take (i+1))=uA out (rs.take i)++kS x:=by
 rw[zfq h];unfold kS
 cases x with
 |nil=>simp
 |cons a b=>simp
def zEh(p:Pl)(pen:Pen)(J:p.pts.length<=4096):CX 352 [wv p,ws pen] (.sl zk (jo p pen)):=by
 refine zc func352<|⟨LU,zk,[],rfl,wb2 ?_⟩;intro v;refine⟨Nat,λi=>⟨[(2,.loc 0 0),(3,.loc 1 0),(5,.own 2),(6,i64 p.pts.length),(7,i64 i)],[(0,.box 191 [.sl ptE p.pts,pr (p.cl=true)]),(1,.box 55 (jb pen)),(2,.arr 156 zk 1 (yj p pen i))],3,74,0⟩,λi=>i<=p.pts.length/\(p.pts.length<=1->i=0),λi=>p.pts.length-i,0,?_,?_,?_⟩
 .exact⟨Xh _,λ_=>rfl⟩
 .exact zf [0,1,2]
 rintro i ⟨hi,u⟩
 have bl:=zi1 p pen i;have e:=zgz p pen i
 have over:(p.pts.length<=i∨p.pts.length<=1)->LE (.sl zk (yj p pen i)) (.sl zk (jo p pen)):=λh=>by
  refine z6 ?_;rw[zcL]
  split
  .rename_i k;rw[u k];rfl
  rw[show i=p.pts.length by omega]
 refine⟨λg=>?_,λg=>over (.inl (by have g:¬(i:Int)<p.pts.length:=g;omega))⟩;have g:(i:Int)<p.pts.length:=g;refine⟨λd=>?_,λd=>over (.inr (by have d:¬(1:Int)<p.pts.length:=d;omega))⟩;have d:(1:Int)<p.pts.length:=d
 have skip:¬p.cl=true->i=0∨i=p.pts.length-1->yj p pen i=yj p pen (i+1):=λh k=>by
  rw[e,show zf0 p pen i=[] from Xe ⟨h,k⟩,XE]
 refine⟨λc=>Br.mk (λc1=>?A) (λc1=>Ar.fit oM (Br.mk (λb=>?B) (λb=>?C))),λc=>?D⟩
 case A=>
  have c1:(i:Int)=0:=c1;exact wa<|⟨i+1,⟨oM,λ_=>by omega⟩,zt [0,1,2] ⟨rfl,rfl,aR (skip c (.inl oM)),tV⟩,oN⟩
 case B=>
  have b:(i:Int)=p.pts.length-1:=b;exact wa<|⟨i+1,⟨oM,λ_=>by omega⟩,zt [0,1,2] ⟨rfl,rfl,aR (skip c (.inr oM)),tV⟩,oN⟩
 case' C=>
  have c1:¬(i:Int)=0:=c1;have b:¬(i:Int)=p.pts.length-1:=b;replace c:¬(¬p.cl=true/\(i=0∨i=p.pts.length-1)):=λh=>oM
 case' D=>replace c:¬(¬p.cl=true/\(i=0∨i=p.pts.length-1)):=λh=>c h.1
 all_goals
  have E:=Kj ((i:Int)+p.pts.length-1) (show(p.pts.length:Int)≠0 by omega);have F:=Kg ((i:Int)+p.pts.length-1) (show 0<(p.pts.length:Int) by omega);have G:=Kj ((i:Int)+1) (show(p.pts.length:Int)≠0 by omega);have H:=Kg ((i:Int)+1) (show 0<(p.pts.length:Int) by omega)
  have s:(((i:Int)+p.pts.length-1)%p.pts.length).toNat=(i+p.pts.length-1)%p.pts.length:=by
   rw[show(i:Int)+p.pts.length-1=((i+p.pts.length-1:Nat):Int) by omega];omega
  have t:(((i:Int)+1)%p.pts.length).toNat=(i+1)%p.pts.length:=by
   rw[show(i:Int)+1=((i+1:Nat):Int) by omega];omega
  refine wd ?_;(iterate 2 refine wa ?_);refine Dv.pos ⟨oM,oM⟩<|Ob.mk ⟨E,F⟩ λx f=>?_;have f:=qx (show p.pts[(((i:Int)+p.pts.length-1)%p.pts.length).toNat]?=some x from f);rw[s]at f;refine wb λy o=>?_;have o:=qx (show p.pts[i]?=some y from o);refine wa<|Dv.pos ⟨oM,oM⟩<|Ob.mk ⟨G,H⟩ λz m=>?_;have m:=qx (show p.pts[(((i:Int)+1)%p.pts.length).toNat]?=some z from m);rw[t]at m;refine wg (zHk x y z pen)<|wh ?_;have jl:=zi0 x y z pen
  refine⟨Nat,λj=>⟨[(2,.loc 0 0),(3,.loc 1 0),(5,.own 2),(6,i64 p.pts.length),(7,i64 i),(8,.sl zk (jh x y z pen)),(9,i64 j)],[(0,.box 191 [.sl ptE p.pts,pr (p.cl=true)]),(1,.box 55 (jb pen)),(2,.arr 156 zk 1 (uA (yj p pen i) ((jh x y z pen).take j)))],3,74,0⟩,λj=>j<=(jh x y z pen).length,λj=>(jh x y z pen).length-j,0,?_,?_,?_⟩
  .exact Xh _
  .exact zt [0,1,2] ⟨rfl,rfl,aR (XE (yj p pen i)).symm,tV⟩
  rintro j I
  have pl:=zhG (yj p pen i) ((jh x y z pen).take j);rw[Xp]at pl;intro w;refine⟨λk:(j:Int)<(jh x y z pen).length=>?_,λk:¬(j:Int)<(jh x y z pen).length=>?_⟩
  .refine wb λr n=>?_;have n:=zyg (out:=yj p pen i) (show(jh x y z pen)[j]?=some r from n)
   refine zb.give [2] 1 [.own 0,.sl ptE r] [(0,.arr 156 zk 1 (uA (yj p pen i) ((jh x y z pen).take j)))] [(1,.arr 156 zk 1 (uA (yj p pen i) ((jh x y z pen).take j)++kS r))] (.own 1) (ziY (uA (yj p pen i) ((jh x y z pen).take j)) r oM)
    LEs.refl rfl rfl rfl ⟨⟨_,rfl,rfl,tV⟩,tV⟩ rfl ⟨⟨rfl,tV⟩,tV⟩ ?_
   refine wa ?_;refine⟨j+1,oM,zt [0,1,3] ⟨rfl,rfl,aR n.symm,tV⟩,oN⟩
  refine wa<|⟨i+1,⟨oM,λ_=>by omega⟩,zt [0,1,2] ⟨rfl,rfl,aR ?_,tV⟩,oN⟩;rw[Xi oM,zsv zp7,e,show zf0 p pen i=jh x y z pen by rw[f,o,m];exact Xc c]
variable{p:Pl}{pen:Pen}
def zsz(h:p.pts.length=1):zet p pen=kS (zbE (nth p.pts 0) pen):=by unfold zet;rw[Xe h]
def zsA(h:1<p.pts.length)(k:¬p.cl=true):zet p pen=kS (uc (nth p.pts 1) (nth p.pts 0) pen)++kS (uc (nth p.pts (p.pts.length-2)) (nth p.pts (p.pts.length-1)) pen):=by
 unfold zet;rw[Xc (show¬p.pts.length=1 by omega),Xe ⟨h,k⟩]
def zp8(h:¬p.pts.length=1)(k:¬(1<p.pts.length/\¬p.cl=true)):zet p pen=[]:=by
 unfold zet;rw[Xc h,Xc k]
def zBB(p:Pl)(pen:Pen):(zet p pen).length<=2:=by
 unfold zet
 split
 .have:=vM (zbE (nth p.pts 0) pen);omega
 split
 .have b:=vM (uc (nth p.pts 1) (nth p.pts 0) pen);have c:=vM (uc (nth p.pts (p.pts.length-2)) (nth p.pts (p.pts.length-1)) pen);rw[Xr];omega
 decide
def zuz(p:Pl)(pen:Pen):(kv p pen).length<=2*p.pts.length+3:=by
 unfold kv;rw[Xr,Xr];have b:=zgy p pen;have c:=zol p pen;have d:=zBB p pen;omega
def zom(h:¬1<p.pts.length):k7 p pen=zeA p.pts pen.w (p.pts.length-1):=by
 rw[zaj,Xc (λk=>h k.2),XE]
def zsB(h:p.pts.length<=1):jo p pen=[]:=by rw[zcL,Xe h]
def zuA(h:p.pts.length=0):kv p pen=[]:=by
 unfold kv;rw[zom oM,zsB oM,zp8 oM oM,h];rfl
def zuB(h:p.pts.length=1):kv p pen=kS (zbE (nth p.pts 0) pen):=by
 unfold kv;rw[zom oM,zsB oM,zsz h,h];rfl
def zyh(p:Pl)(pen:Pen)(o:p.pts.length<=4096):CX 297 [wv p,ws pen] (.sl zk (kv p pen)):=by
 refine zc func297<|zb.fresh _ _ (zBA p pen o) rfl (λ_ _=>rfl) (.inl rfl)<|wg (zEh p pen o) ?_;have lb:=zgy p pen;have lj:=zol p pen;refine⟨Nat,λi=>⟨[(2,.loc 0 0),(3,.loc 1 0),(5,.own 2),(6,.sl zk (jo p pen)),(7,i64 i)],[(0,.box 191 [.sl ptE p.pts,pr (p.cl=true)]),(1,.box 55 (jb pen)),(2,.arr 156 zk 1 (k7 p pen++(jo p pen).take i))],3,77,0⟩,λi=>i<=(jo p pen).length,λi=>(jo p pen).length-i,0,?_,?_,?_⟩
 .exact Xh _
 .exact zt [0,1,2] ⟨rfl,rfl,aR (XE (k7 p pen)).symm,tV⟩
 rintro i hi
 intro s;refine⟨λg:(i:Int)<(jo p pen).length=>?_,λg:¬(i:Int)<(jo p pen).length=>?_⟩
 .refine wb λx(b:(jo p pen)[i]?=some x)=>?_;refine⟨LU,zk,[x],rfl,wb0 ?_⟩;refine⟨[x],rfl,wb24 ?_⟩;refine wa ?_;refine⟨i+1,oM,zt [0,1,4] ⟨rfl,rfl,aR (by rw[Xn,b];exact XL ..),tV⟩,oN⟩
 have d:(jo p pen).take i=jo p pen:=Xi oM;have ll:(k7 p pen++(jo p pen).take i).length<=100000:=by rw[d,Xr];omega
 intro t;refine⟨λn:(p.pts.length:Int)=1=>?_,λn=>?_⟩
 .refine wd<|wb λx b=>?_;have b:=qx (show p.pts[0]?=some x from b);refine wg (zBw x pen) ?_
  refine zb.give [2] 1 [.own 0,.sl ptE (zbE x pen)] [(0,.arr 156 zk 1 (k7 p pen++(jo p pen).take i))] [(1,.arr 156 zk 1 (k7 p pen++(jo p pen).take i++kS (zbE x pen)))] (.own 1) (ziY (k7 p pen++(jo p pen).take i) (zbE x pen) ll)
   LEs.refl rfl rfl rfl ⟨⟨_,rfl,rfl,tV⟩,tV⟩ rfl ⟨⟨rfl,tV⟩,tV⟩ ?_
  refine wh<|⟨λk=>absurd k oM,λ_=>?_⟩;refine z6 ?_;unfold kv;rw[d,zsz oM,b]
 have n:¬(p.pts.length:Int)=1:=n
 have no:¬(1<p.pts.length/\¬p.cl=true)->LE (.sl zk (k7 p pen++(jo p pen).take i)) (.sl zk (kv p pen)):=λh=>by
  refine z6 ?_;unfold kv;rw[d,zp8 oM h,XE]
 refine⟨λk=>?_,λk=>no λh=>by have k:¬(1:Int)<p.pts.length:=k;omega⟩;have k:(1:Int)<p.pts.length:=k;refine⟨λc=>?_,λc=>no λh=>c h.2⟩;have c:¬p.cl=true:=c;refine wd<|wb λx b=>?_;have b:=qx (show p.pts[1]?=some x from b);refine wb λy m=>?_;have m:=qx (show p.pts[0]?=some y from m);refine wg (zBv x y pen) ?_;have s1:=vM (uc x y pen)
 refine zb.give [2] 1 [.own 0,.sl ptE (uc x y pen)] [(0,.arr 156 zk 1 (k7 p pen++(jo p pen).take i))] [(1,.arr 156 zk 1 (k7 p pen++(jo p pen).take i++kS (uc x y pen)))] (.own 1) (ziY (k7 p pen++(jo p pen).take i) (uc x y pen) ll)
  LEs.refl rfl rfl rfl ⟨⟨_,rfl,rfl,tV⟩,tV⟩ rfl ⟨⟨rfl,tV⟩,tV⟩ ?_
 refine wh<|wd<|wa<|wb λu f=>?_;have f:=qx (show p.pts[((p.pts.length:Int)-2).toNat]?=some u from f);rw[show((p.pts.length:Int)-2).toNat=p.pts.length-2 by omega]at f;refine wa<|wb λv j=>?_;have j:=qx (show p.pts[((p.pts.length:Int)-1).toNat]?=some v from j);rw[show((p.pts.length:Int)-1).toNat=p.pts.length-1 by omega]at j;refine wg (zBv u v pen) ?_
 refine zb.give [3] 1 [.own 0,.sl ptE (uc u v pen)] [(0,.arr 156 zk 1 (k7 p pen++(jo p pen).take i++kS (uc x y pen)))] [(1,.arr 156 zk 1 (k7 p pen++(jo p pen).take i++kS (uc x y pen)++kS (uc u v pen)))] (.own 1) (ziY (k7 p pen++(jo p pen).take i++kS (uc x y pen)) (uc u v pen) (by rw[d,Xr,Xr];omega))
  LEs.refl rfl rfl rfl ⟨⟨_,rfl,rfl,tV⟩,tV⟩ rfl ⟨⟨rfl,tV⟩,tV⟩ ?_
 refine wh<|z6 ?_;unfold kv;rw[d,zsA oM c,b,m,f,j];exact XL ..
def zmb(p:Pl)(pen:Pen)(n:Nat):LQ:=(List.range n).flatMap λi=>kS (j8 (nth p.pts i) (nth p.pts ((i+1)%p.pts.length)) pen.w)
def zfr(p:Pl)(pen:Pen)(n:Nat):zmb p pen (n+1)=zmb p pen n++kS (j8 (nth p.pts n) (nth p.pts ((n+1)%p.pts.length)) pen.w):=by
 unfold zmb;rw[KH,QA,Jw]
def zp9(p:Pl)(pen:Pen):∀n,n<p.pts.length->zmb p pen n=zeA p.pts pen.w n
 |0,_=>rfl
 |n+1,h=>by rw[zfr,ziZ,zp9 p pen n oM,XB h]
def zBC(p:Pl)(pen:Pen)(n:Nat):(zmb p pen n).length<=n:=by
 induction n with
 |zero=>exact Xj 0
 |succ n b=>
  rw[zfr,Xr];have:=vM (j8 (nth p.pts n) (nth p.pts ((n+1)%p.pts.length)) pen.w);omega
def zeB(p:Pl):Nat:=if p.cl=true then p.pts.length else p.pts.length-1
def zsC(h:p.cl=true):zeB p=p.pts.length:=Xe h
def zwg(h:¬p.cl=true):zeB p=p.pts.length-1:=Xc h
def zEi(p:Pl):zeB p<=p.pts.length:=by unfold zeB;split <;> omega
def zBD(h:1<p.pts.length):zmb p pen (zeB p)=k7 p pen:=by
 rw[zaj]
 by_cases c:p.cl=true
 .rw[zsC c,Xe ⟨c,h⟩];obtain⟨m,b⟩:∃m,p.pts.length=m+1:=⟨p.pts.length-1,oM⟩;rw[b,zfr,zp9 p pen m oM,b,J2];rfl
 rw[zwg c,Xc (λh=>c h.1),zp9 p pen _ oM,XE]
def zEj(p:Pl)(pen:Pen)(n:p.pts.length<=4096):CX 318 [wv p,ws pen] (.sl zk (kv p pen)):=by
 refine zc func318 λA=>?_;refine⟨λn0:(p.pts.length:Int)=0=>?_,λn0:¬(p.pts.length:Int)=0=>?_⟩
 .rw[zuA oM];exact zD
 refine⟨λE:(p.pts.length:Int)=1=>?_,λE:¬(p.pts.length:Int)=1=>?_⟩
 .refine wd<|wb λx b=>?_;have b:=qx (show p.pts[0]?=some x from b);refine wg (zBu x pen)<|⟨LU,zk,[zbE x pen],rfl,wb0 ?_⟩
  refine zb.give [2,5] 1 [.own 1,.loc 0 0] [(0,.box 88 [nS]),(1,.arr 156 zk 1 [zbE x pen])] [(0,.box 88 [.own 2]),(2,.arr 156 zk 1 (uA [] [zbE x pen]))] (.tup []) (zHu [zbE x pen] sI)
   LEs.refl rfl rfl rfl ⟨⟨_,rfl,rfl,rfl⟩,⟨_,rfl,rfl,tV⟩,tV⟩ rfl ⟨⟨rfl,rfl⟩,⟨rfl,tV⟩,tV⟩ ?_
  refine wh<|z6 ?_;rw[zuB oM,←b,zsu];rfl
 refine wa ?_;have t:1<p.pts.length:=oM;refine⟨λc=>?C,λc=>?D⟩
 case' C=>
  have c:p.cl=true:=c;have hL:=zsC c
 case' D=>
  have c:¬p.cl=true:=c;have hL:=zwg c
 all_goals
  have B:=zEi p;refine⟨Nat,λi=>⟨[(2,.loc 0 0),(3,.loc 1 0),(5,.loc 2 0),(6,.fn 373 [.loc 2 0]),(7,.loc 3 0),(8,.loc 4 0),(9,.fn 375 [.loc 3 0,.loc 4 0]),(39,i64 (zeB p:Int)),(40,i64 i)],[(0,.box 191 [.sl ptE p.pts,pr (p.cl=true)]),(1,.box 55 (jb pen)),(2,.box 88 [.own 5]),(3,.box 156 [.sl ptE p.pts]),(4,.box 3 [i64 p.pts.length]),(5,.arr 156 zk 1 (zmb p pen i))],6,121,0⟩,λi=>i<=zeB p,λi=>zeB p-i,0,?_,?_,?_⟩
  .exact Xh _
  .exact jv [(0,some 0),(1,some 1),(2,some 2),(3,some 3),(4,some 4),(5,none)] ⟨rfl,rfl,rfl,rfl,rfl,rfl,rfl,iR oM,rfl,tV⟩ ⟨rfl,rfl,rfl,rfl,rfl,rfl,tV⟩
  rintro i hi
  have bl:=zBC p pen i;refine⟨λg:(i:Int)<zeB p=>?_,λg:¬(i:Int)<zeB p=>?_⟩
  .refine wd<|wb λx b=>?_;have b:=qx (show p.pts[i]?=some x from b);refine wa<|wg (zuy p.pts ((i:Int)+1) ((i+1)%p.pts.length) ⟨oM,n⟩ ⟨oM,oM⟩ (by rw[show(i:Int)+1+p.pts.length=((i+1:Nat):Int)+(p.pts.length:Int) by omega,Int.add_emod_right];omega))<|wg (zG9 x (nth p.pts ((i+1)%p.pts.length)) pen.w)<|⟨LU,zk,[j8 x (nth p.pts ((i+1)%p.pts.length)) pen.w],rfl,wb0 ?_⟩
   refine zb.give [2,5,6] 1 [.own 2,.loc 0 0] [(0,.box 88 [.own 1]),(1,.arr 156 zk 1 (zmb p pen i)),(2,.arr 156 zk 1 [j8 x (nth p.pts ((i+1)%p.pts.length)) pen.w])] [(0,.box 88 [.own 3]),(3,.arr 156 zk 1 (uA (zmb p pen i) [j8 x (nth p.pts ((i+1)%p.pts.length)) pen.w]))] (.tup []) (zBy (zmb p pen i) [j8 x (nth p.pts ((i+1)%p.pts.length)) pen.w] oM sI)
      LEs.refl rfl rfl rfl ⟨⟨_,rfl,rfl,rfl⟩,⟨_,rfl,rfl,tV⟩,⟨_,rfl,rfl,tV⟩,tV⟩ rfl ⟨⟨rfl,rfl⟩,⟨rfl,tV⟩,tV⟩ ?_
   refine wh<|wa ?_;refine⟨i+1,oM,zt [0,1,2,3,4,7] ⟨rfl,rfl,rfl,rfl,rfl,aR (by rw[zfr,zsu,b]),tV⟩,oN⟩
  have z:zmb p pen i=k7 p pen:=by rw[←zBD t,show i=zeB p by omega]
  refine⟨Nat,λi=>⟨[(2,.loc 0 0),(3,.loc 1 0),(5,.loc 2 0),(6,.fn 373 [.loc 2 0]),(7,.loc 3 0),(8,.loc 4 0),(9,.fn 375 [.loc 3 0,.loc 4 0]),(58,i64 p.pts.length),(59,i64 i)],[(0,.box 191 [.sl ptE p.pts,pr (p.cl=true)]),(1,.box 55 (jb pen)),(2,.box 88 [.own 5]),(3,.box 156 [.sl ptE p.pts]),(4,.box 3 [i64 p.pts.length]),(5,.arr 156 zk 1 (k7 p pen++yj p pen i))],6,121,0⟩,λi=>i<=p.pts.length,λi=>p.pts.length-i,0,?_,?_,?_⟩
  .exact Xh _
  .exact zt [0,1,2,3,4,5] ⟨rfl,rfl,rfl,rfl,rfl,aR (by rw[z];exact(XE _).symm),tV⟩
  rintro i hi
  have lb:=zgy p pen;have lj:=zi1 p pen i;have ll:(k7 p pen++yj p pen i).length<=50000:=by rw[Xr];omega
  have ej:=zgz p pen i;refine⟨λg=>?_,λg=>?_⟩;rotate_left
  .have g:¬(i:Int)<p.pts.length:=g;have ei:yj p pen i=jo p pen:=by rw[zcL,Xc oM,show i=p.pts.length by omega]
   refine⟨λo=>?_,λo=>?_⟩;rotate_left
   .refine z6 ?_;unfold kv;rw[ei,zp8 oM (λh=>o h.2),XE]
   have o:¬p.cl=true:=o;refine wd<|wb λx b=>?_;have b:=qx (show p.pts[1]?=some x from b);refine wb λy s=>?_;have s:=qx (show p.pts[0]?=some y from s);refine wg (zFX x y pen)<|wa<|wb λu j=>?_;have j:=qx (show p.pts[((p.pts.length:Int)-2).toNat]?=some u from j);rw[show((p.pts.length:Int)-2).toNat=p.pts.length-2 by omega]at j;refine wa<|wb λv m=>?_;have m:=qx (show p.pts[((p.pts.length:Int)-1).toNat]?=some v from m)
   rw[show((p.pts.length:Int)-1).toNat=p.pts.length-1 by omega]at m;refine wg (zFX u v pen)<|⟨LU,zk,[uc x y pen,uc u v pen],rfl,wb0 ?_⟩
   refine zb.give [2,5,6] 1 [.own 2,.loc 0 0] [(0,.box 88 [.own 1]),(1,.arr 156 zk 1 (k7 p pen++yj p pen i)),(2,.arr 156 zk 1 [uc x y pen,uc u v pen])] [(0,.box 88 [.own 3]),(3,.arr 156 zk 1 (uA (k7 p pen++yj p pen i) [uc x y pen,uc u v pen]))] (.tup []) (zBy (k7 p pen++yj p pen i) [uc x y pen,uc u v pen] oM sI)
      LEs.refl rfl rfl rfl ⟨⟨_,rfl,rfl,rfl⟩,⟨_,rfl,rfl,tV⟩,⟨_,rfl,rfl,tV⟩,tV⟩ rfl ⟨⟨rfl,rfl⟩,⟨rfl,tV⟩,tV⟩ ?_
   refine wh<|z6 ?_;unfold kv;rw[zBx,ei,zsA t o,b,s,j,m];exact XL ..
  have g:(i:Int)<p.pts.length:=g
  have skip:¬p.cl=true->i=0∨i=p.pts.length-1->k7 p pen++yj p pen i=k7 p pen++yj p pen (i+1):=λh k=>by
   rw[ej,show zf0 p pen i=[] from Xe ⟨h,k⟩,XE]
  refine⟨λk=>?_,λk=>Br.mk (λd=>Ar.fit oM (Br.mk (λf=>?_) (λf=>?_))) (λd=>?_)⟩;rotate_left 2
  .have f:¬(i:Int)<(p.pts.length:Int)-1:=f;exact wa<|⟨i+1,oM,zt [0,1,2,3,4,5] ⟨rfl,rfl,rfl,rfl,rfl,aR (skip k (.inr oM)),tV⟩,oN⟩
  .have d:¬(0:Int)<(i:Int):=d;exact wa<|⟨i+1,oM,zt [0,1,2,3,4,5] ⟨rfl,rfl,rfl,rfl,rfl,aR (skip k (.inl oM)),tV⟩,oN⟩
  all_goals
   have kk:¬(¬p.cl=true/\(i=0∨i=p.pts.length-1)):=by
    first
    |exact λh=>h.1 k
    |exact λh=>absurd h.2 (by have d:(0:Int)<(i:Int):=d;have f:(i:Int)<(p.pts.length:Int)-1:=f;omega)
   refine wd<|wa<|wg (zuy p.pts ((i:Int)-1) ((i+p.pts.length-1)%p.pts.length) ⟨oM,n⟩ ⟨oM,oM⟩ (by rw[show(i:Int)-1+p.pts.length=((i+p.pts.length-1:Nat):Int) by omega];omega))<|wb λx b=>?_;have b:=qx (show p.pts[i]?=some x from b);refine wa<|wg (zuy p.pts ((i:Int)+1) ((i+1)%p.pts.length) ⟨oM,n⟩ ⟨oM,oM⟩ (by rw[show(i:Int)+1+p.pts.length=((i+1:Nat):Int)+(p.pts.length:Int) by omega,Int.add_emod_right];omega)) ?_
   refine wg (zHj (nth p.pts ((i+p.pts.length-1)%p.pts.length)) x (nth p.pts ((i+1)%p.pts.length)) pen) ?_;have jl:=zi0 (nth p.pts ((i+p.pts.length-1)%p.pts.length)) x (nth p.pts ((i+1)%p.pts.length)) pen
   refine zb.give [2,5] 1 [.sl zk (jh (nth p.pts ((i+p.pts.length-1)%p.pts.length)) x (nth p.pts ((i+1)%p.pts.length)) pen),.loc 0 0] [(0,.box 88 [.own 1]),(1,.arr 156 zk 1 (k7 p pen++yj p pen i))] [(0,.box 88 [.own 2]),(2,.arr 156 zk 1 (uA (k7 p pen++yj p pen i) (jh (nth p.pts ((i+p.pts.length-1)%p.pts.length)) x (nth p.pts ((i+1)%p.pts.length)) pen)))] (.tup []) (zHv (k7 p pen++yj p pen i) (jh (nth p.pts ((i+p.pts.length-1)%p.pts.length)) x (nth p.pts ((i+1)%p.pts.length)) pen) oM oM)
    LEs.refl rfl rfl rfl ⟨⟨_,rfl,rfl,rfl⟩,⟨_,rfl,rfl,tV⟩,tV⟩ rfl ⟨⟨rfl,rfl⟩,⟨rfl,tV⟩,tV⟩ ?_
   refine wh<|wa<|⟨i+1,oM,zt [0,1,2,3,4,6] ⟨rfl,rfl,rfl,rfl,rfl,aR ?_,tV⟩,oN⟩;rw[zsv zp7,ej,show zf0 p pen i=jh (nth p.pts ((i+p.pts.length-1)%p.pts.length)) (nth p.pts i) (nth p.pts ((i+1)%p.pts.length)) pen from Xc kk,b];exact XL ..
variable{r:LU}
def zcM{k:Nat}(h:r.length<=k):(kH r).length<=k:=by have:=zui r;omega
def zBE(a b:Pt)(w:Int):(j8 a b w).length<=16:=by
 unfold j8
 split
 .simp
 exact zcM sI
def zuC(a:Pt)(w:Int):(vZ a w).length<=16:=by
 unfold vZ
 split
 .simp
 exact zcM (by rw[Xv];decide)
def cap_l(a b:Pt)(w:Int):(zlC a b w).length<=16:=by
 unfold zlC
 split
 .simp
 exact zcM sI
def zHw(a:Pt)(w:Int):(zeo a w).length<=16:=by
 unfold zeo
 split
 .simp
 exact zcM sI
def end_l(a b:Pt)(p:Pen):(uc a b p).length<=16:=by
 unfold uc
 split
 .exact cap_l ..
 split
 .exact zuC ..
 simp
def dot_l(a:Pt)(p:Pen):(zbE a p).length<=16:=by
 unfold zbE
 split
 .exact zHw ..
 split
 .exact zuC ..
 simp
def zfs{q:LU}{k:Nat}(h:r.length<=k)(b:q∈kS r):q.length<=k:=by rw[zx2 b];exact h
def zHx{a v b:Pt}{p:Pen}:∀r∈jh a v b p,r.length<=16:=by
 intro r c;unfold jh at c
 split at c
 .cases c
 split at c
 .exact zfs (zuC ..) c
 split at c
 .cases c
 refine zfs (zcM ?_) c
 split <;> simp
def zHy{p:Pl}{pen:Pen}:∀r∈kv p pen,r.length<=16:=by
 intro r b;unfold kv at b
 rcases Xu.1 b with b|b
 .rcases Xu.1 b with b|b
  .rw[zaj]at b
   rcases Xu.1 b with b|b
   .unfold zeA at b;obtain⟨i,_,b⟩:=QO.1 b;exact zfs (zBE ..) b
   split at b
   .exact zfs (zBE ..) b
   cases b
  rw[zcL]at b
  split at b
  .cases b
  unfold yj at b;obtain⟨i,_,b⟩:=QO.1 b;unfold zf0 at b
  split at b
  .cases b
  exact zHx r b
 unfold zet at b
 split at b
 .exact zfs (dot_l ..) b
 split at b
 .rcases Xu.1 b with b|b <;> exact zfs (end_l ..) b
 cases b
def zhH(r:LU)(rs:LQ):qh (r::rs)=r.length+qh rs:=by unfold qh;simp
def zEk(a b:LQ):qh (a++b)=qh a+qh b:=by unfold qh;simp
def zwh{k:Nat}:∀{rs:LQ},(∀r∈rs,r.length<=k)->qh rs<=k*rs.length
 |[],_=>Xh _
 |r::rs,h=>by
  have c:=h r (.head _);have d:=zwh λq b=>h q (.tail _ b)
  rw[zhH,Xm,YX];omega
def jB(p:Pl):(zw p).pts.length<=p.pts.length:=by
 have h:=ziX p.pts;unfold zw;dsimp only
 split
 .unfold qo
  split
  .rw[Q4];omega
  exact h
 exact h
def zi2{p:Pl}{pen:Pen}(f:p.pts.length<=4096):qh (kv (zw p) pen)<=200000/\(kv (zw p) pen).length<=10000:=by
 have b:=zwh (zHy (p:=zw p) (pen:=pen));have c:=zuz (zw p) pen;have d:=jB p;omega
def rgE(c:LQ×Int):SV:=.tup [.sl zk c.1,i64 c.2]
variable{e:Int}
def qO{c:LQ×Int}(h:c=([],e)):LE (.tup [nS,i64 e]) (rgE c):=by
 rw[h];exact zP zD .refl
def zuD(p:Pl)(pen:Pen)(j:p.pts.length<=4096):CX 252 [wv p,ws pen] (rgE (kB p pen)):=by
 refine zc func252 ?_
 have b:kB p pen=if¬kF pen then([],13) else if¬∀q∈p.pts,zm q then([],6) else if 4096<p.pts.length then([],5)
  else if¬v6 (kv (zw p) pen) then([],6) else if 4096<qh (kv (zw p) pen) then([],5) else(kv (zw p) pen,0):=rfl
 refine wg (zfi pen)<|⟨λk=>?_,λk=>?_⟩
 .have k:¬kF pen:=k;exact qO (by rw[b,Xe k])
 have k:kF pen:=Xa.1 k;rw[kI k]at b;refine⟨LU,zk,[p.pts],rfl,wb0 ?_⟩;have c1:qh [p.pts]=p.pts.length:=by rw[zhH];rfl
 refine wg (zma [p.pts] oM) ?_;have g:v6 [p.pts]↔∀q∈p.pts,zm q:=⟨λh=>h _ (.head _),λh r n=>by rw[Xt.1 n];exact h⟩;refine⟨λd=>?_,λd=>?_⟩
 .have d:¬∀q∈p.pts,zm q:=λh=>d (g.2 h)
  exact qO (by rw[b,Xe d])
 have d:∀q∈p.pts,zm q:=g.1 (Xa.1 d);rw[kI d,Xc (show¬4096<p.pts.length by omega)]at b;intro m;refine⟨λo:(4096:Int)<p.pts.length=>?_,λ_=>?_⟩
 .omega
 have rc:=zi2 (pen:=pen) j;refine wd<|wg (zhF p j)<|wg (zEj (zw p) pen (by have:=jB p;omega))<|wh<|wg (zma (kv (zw p) pen) oM)<|⟨λc=>?_,λc=>?_⟩
 .have c:¬v6 (kv (zw p) pen):=c;exact qO (by rw[b,Xe c])
 have c:v6 (kv (zw p) pen):=Xa.1 c;rw[kI c]at b;refine⟨λf:(4096:Int)<(if v6 (kv (zw p) pen) then(qh (kv (zw p) pen):Int) else 0)=>?_,λf:¬(4096:Int)<(if v6 (kv (zw p) pen) then(qh (kv (zw p) pen):Int) else 0)=>?_⟩
 .rw[Xe c]at f;exact qO (by rw[b,Xe oM])
 rw[Xe c]at f;rw[Xc (show¬4096<qh (kv (zw p) pen) by omega)]at b;rw[b];exact .refl
def zuE(p:Pl)(pen:Pen)(m:p.pts.length<=4096):CX 234 [wv p,ws pen] (rgE (kB p pen)):=by
 refine zc func234 ?_
 have b:kB p pen=if¬kF pen then([],13) else if¬∀q∈p.pts,zm q then([],6) else if 4096<p.pts.length then([],5)
  else if¬v6 (kv (zw p) pen) then([],6) else if 4096<qh (kv (zw p) pen) then([],5) else(kv (zw p) pen,0):=rfl
 refine wg (zdi pen)<|⟨λk=>?_,λk=>?_⟩
 .have k:¬kF pen:=k;exact qO (by rw[b,Xe k])
 have k:kF pen:=Xa.1 k;rw[kI k]at b;refine wg (zsx p.pts)<|⟨λc=>?_,λc=>?_⟩
 .have c:¬∀q∈p.pts,zm q:=c;exact qO (by rw[b,Xe c])
 have c:∀q∈p.pts,zm q:=Xa.1 c;rw[kI c,Xc (show¬4096<p.pts.length by omega)]at b;intro o;refine⟨λv:(4096:Int)<p.pts.length=>?_,λ_=>?_⟩
 .omega
 have rc:=zi2 (pen:=pen) m;refine wd<|wg (zko p m)<|wg (zyh (zw p) pen (by have:=jB p;omega))<|wh<|⟨Nat,λi=>⟨[(6,.sl zk (kv (zw p) pen)),(7,i64 i)],[],0,39,0⟩,λi=>i<=(kv (zw p) pen).length/\v6 ((kv (zw p) pen).take i),λi=>(kv (zw p) pen).length-i,0,?_,?_,?_⟩
 .exact⟨Xh _,λr t=>by cases t⟩
 .exact zB []
 rintro i ⟨u,j⟩
 intro s;refine⟨λg:(i:Int)<(kv (zw p) pen).length=>?_,λg:¬(i:Int)<(kv (zw p) pen).length=>?_⟩
 .refine wb λx(n:(kv (zw p) pen)[i]?=some x)=>?_;refine wg (zsx x)<|⟨λd=>?_,λd=>?_⟩
  .have d:¬v6 (kv (zw p) pen):=λh=>d (h x (Xf n))
   exact qO (by rw[b,Xe d])
  have d:=Xa.1 d;exact wa<|⟨i+1,⟨oM,zdj n j d⟩,zB [],oN⟩
 rw[Xi oM]at j;rw[kI j]at b;refine wg (zwf (kv (zw p) pen) oM)<|⟨λf=>?_,λf=>?_⟩
 .have f:(4096:Int)<qh (kv (zw p) pen):=f;exact qO (by rw[b,Xe oM])
 have f:¬(4096:Int)<qh (kv (zw p) pen):=f;rw[Xc (show¬4096<qh (kv (zw p) pen) by omega)]at b;rw[b];exact .refl
def zba(l:LZ)(pen:Pen):LQ:=l.flatMap λp=>(kB p pen).1
variable{l:LZ}{i:Nat}{x:Pl}
def zon(h:l[i]?=some x):zba (l.take (i+1)) pen=zba (l.take i) pen++(kB x pen).1:=by
 unfold zba;rw[Xn,h,QA];simp
def zeC{pen:Pen}:∀{l:LZ},(∀p∈l,(kB p pen).2=0)->qr l pen=(zba l pen,0)
 |[],_=>rfl
 |p::r,h=>by
  have c:=zeC λq b=>h q (.tail _ b)
  unfold qr;rw[qP (h p (.head _)),c];rfl
def zdm{pen:Pen}:∀{l:LZ} {i:Nat} {x:Pl},l[i]?=some x->(∀p∈l.take i,(kB p pen).2=0)->¬(kB x pen).2=0->qr l pen=([],(kB x pen).2)
 |p::r,0,x,h,_,b=>by
  cases h
  unfold qr;rw[Xe b]
 |p::r,i+1,x,h,c,b=>by
  have f:=zdm (l:=r) (i:=i) h (λq d=>c q (by rw[X8];exact .tail _ d)) b;unfold qr;rw[qP (c p (by rw[X8];exact .head _)),f];exact Xe b
def zdn(h:(kB p pen).2=0)(c:p.pts.length<=4096):v6 (kB p pen).1/\qh (kB p pen).1<=4096/\(kB p pen).1.length<=10000:=by
 have rc:=zi2 (pen:=pen) c;unfold kB at h ⊢
 split at h <;> rename_i d
 .cases h
 rw[Xc d]
 split at h <;> rename_i f
 .cases h
 rw[Xc f]
 split at h <;> rename_i g
 .cases h
 rw[Xc g]
 split at h <;> rename_i b
 .cases h
 rw[Xc b]
 split at h <;> rename_i j
 .cases h
 rw[Xc j];exact⟨Xa.1 b,oN,rc.2⟩
def zgA{pen:Pen}:∀{l:LZ},(∀p∈l,(kB p pen).2=0)->(∀p∈l,p.pts.length<=4096)->v6 (zba l pen)/\qh (zba l pen)<=4096*l.length/\(zba l pen).length<=10000*l.length
 |[],_,_=>⟨λr f=>(by cases f),Xj 0,Xj 0⟩
 |p::r,h,c=>by
  obtain⟨g,m,n⟩:=zgA (l:=r) (λq b=>h q (.tail _ b)) (λq b=>c q (.tail _ b));obtain⟨d,j,k⟩:=zdn (h p (.head _)) (c p (.head _));have e:zba (p::r) pen=(kB p pen).1++zba r pen:=rfl;rw[e,zEk,Xr,Xm];refine⟨λq b=>?_,oM,oM⟩
  rcases Xu.1 b with b|b
  .exact d q b
  exact g q b
def zhI{P:Pl->Prop}(h:l[i]?=some x)(c:∀p∈l.take i,P p)(d:P x):∀p∈l.take (i+1),P p:=by
 intro p b;rw[Xn,h]at b
 rcases Xu.1 b with b|b
 .exact c p b
 simp at b;rw[b];exact d
def zyi(l:LZ)(pen:Pen)(y:l.length<=16777216)(s:∀q∈l,q.pts.length<=4096):CX 181 [.sl plE l,ws pen] (rgE (qz l pen)):=by
 refine zc func181 ?_;have b:qz l pen=if¬kF pen then([],13) else if (qr l pen).2≠0 then([],(qr l pen).2) else if 4096<qh (qr l pen).1 then([],5) else((qr l pen).1,0):=rfl
 refine wg (zfi pen)<|⟨λk=>?_,λk=>?_⟩
 .have k:¬kF pen:=k;exact qO (by rw[b,Xe k])
 have k:kF pen:=Xa.1 k;rw[kI k]at b;intro v;refine⟨Nat,λi=>⟨[(3,.loc 0 0),(6,.own 1),(16,.sl plE l),(17,i64 l.length),(18,i64 i)],[(0,.box 55 (jb pen)),(1,.arr 156 zk 1 (zba (l.take i) pen))],2,43,0⟩,λi=>i<=l.length/\∀q∈l.take i,(kB q pen).2=0,λi=>l.length-i,0,?_,?_,?_⟩
 .exact⟨Xh _,λq o=>by cases o⟩
 .exact zB [(0,some 0),(1,none)]
 rintro i ⟨w,d⟩
 obtain⟨n,t,u⟩:=zgA d λq o=>s q (XP o)
 rw[Xp]at t u;refine⟨λg:(i:Int)<l.length=>?_,λg:¬(i:Int)<l.length=>?_⟩
 .refine wb λx(j:l[i]?=some x)=>?_;have f:=s x (Xf j);refine wg (zuD x pen f)<|⟨λz=>?_,λz=>?_⟩
  .have z:¬(kB x pen).2=0:=z;refine qO ?_;rw[b,zdm j d z];exact Xe z
  have z:(kB x pen).2=0:=Xa.1 z;obtain⟨s1,A,B⟩:=zdn z f;refine⟨(kB x pen).1,rfl,Ob.mk ⟨(by show _*(24:Int)<=_;omega),oM,dC,λ_ _=>rfl⟩ ?_⟩;exact wa<|⟨i+1,⟨oM,zhI j d z⟩,zt [0,3] ⟨rfl,aR (zon j).symm,tV⟩,oN⟩
 have h:l.take i=l:=Xi oM;rw[h]at d n;rw[zeC d,qP rfl]at b;have m:zba (l.take i) pen=zba l pen:=by rw[h]
 refine wg (zma (zba (l.take i) pen) oM)<|⟨λc=>?_,λc=>?_⟩
 .have c:(4096:Int)<(if v6 (zba (l.take i) pen) then(qh (zba (l.take i) pen):Int) else 0):=c;rw[h,Xe n]at c;exact qO (by rw[b,Xe oN])
 have c:¬(4096:Int)<(if v6 (zba (l.take i) pen) then(qh (zba (l.take i) pen):Int) else 0):=c;rw[h,Xe n]at c;rw[Xc oN]at b;rw[b];exact zP (z6 m) .refl
def zyj(l:LZ)(pen:Pen)(E:l.length<=16777216)(s:∀q∈l,q.pts.length<=4096):CX 159 [.sl plE l,ws pen] (rgE (qz l pen)):=by
 refine zc func159 ?_;have b:qz l pen=if¬kF pen then([],13) else if (qr l pen).2≠0 then([],(qr l pen).2) else if 4096<qh (qr l pen).1 then([],5) else((qr l pen).1,0):=rfl
 refine wg (zdi pen)<|⟨λk=>?_,λk=>?_⟩
 .have k:¬kF pen:=k;exact qO (by rw[b,Xe k])
 have k:kF pen:=Xa.1 k;rw[kI k]at b;refine⟨LU,zk,[],rfl,wb2 ?_⟩;refine⟨Nat,λi=>⟨[(0,.sl plE l),(3,.loc 0 0),(6,.own 1),(7,i64 i)],[(0,.box 55 (jb pen)),(1,.arr 156 zk 1 (zba (l.take i) pen))],2,50,0⟩,λi=>i<=l.length/\∀q∈l.take i,(kB q pen).2=0,λi=>l.length-i,0,?_,?_,?_⟩
 .exact⟨Xh _,λq o=>by cases o⟩
 .exact zf [0,1]
 rintro i ⟨C,d⟩
 obtain⟨B,t,u⟩:=zgA d λq o=>s q (XP o)
 rw[Xp]at t u;intro v;refine⟨λg:(i:Int)<l.length=>?_,λg:¬(i:Int)<l.length=>?_⟩
 .refine wd<|wb λx(m:l[i]?=some x)=>?_;have f:=s x (Xf m);refine wg (zuE x pen f)<|wh<|⟨λz=>?_,λz=>?_⟩
  .have z:¬(kB x pen).2=0:=z;refine qO ?_;rw[b,zdm m d z];exact Xe z
  have z:(kB x pen).2=0:=Xa.1 z;obtain⟨s1,F,G⟩:=zdn z f;refine⟨Nat,λj=>⟨[(0,.sl plE l),(3,.loc 0 0),(6,.own 1),(7,i64 i),(8,.sl zk (kB x pen).1),(10,i64 j)],[(0,.box 55 (jb pen)),(1,.arr 156 zk 1 (zba (l.take i) pen++(kB x pen).1.take j))],2,50,0⟩,λj=>j<=(kB x pen).1.length,λj=>(kB x pen).1.length-j,0,?_,?_,?_⟩
  .exact Xh _
  .exact zt [0,1] ⟨rfl,aR (XE _).symm,tV⟩
  rintro j D
  intro w;refine⟨λA:(j:Int)<(kB x pen).1.length=>?_,λA:¬(j:Int)<(kB x pen).1.length=>?_⟩
  .refine wb λr(y:(kB x pen).1[j]?=some r)=>?_;refine⟨LU,zk,[r],rfl,wb0 ?_⟩;refine⟨[r],rfl,wb24 ?_⟩;exact wa<|⟨j+1,oM,zt [0,3] ⟨rfl,aR (by rw[Xn,y];exact XL ..),tV⟩,oN⟩
  exact wa<|⟨i+1,⟨oM,zhI m d z⟩,zt [0,1] ⟨rfl,aR (by rw[show(kB x pen).1.take j=(kB x pen).1 from Xi oM,zon m]),tV⟩,oN⟩
 have h:l.take i=l:=Xi oM;rw[h]at d;rw[zeC d,qP rfl]at b;have n:zba (l.take i) pen=zba l pen:=by rw[h]
 refine wg (zwf (zba (l.take i) pen) oM)<|⟨λc=>?_,λc=>?_⟩
 .have c:(4096:Int)<qh (zba (l.take i) pen):=c;rw[h]at c;exact qO (by rw[b,Xe oN])
 have c:¬(4096:Int)<qh (zba (l.take i) pen):=c;rw[h]at c;rw[Xc oN]at b;rw[b];exact zP (z6 n) .refl
def zZ(q:Pl):LU:=if q.cl=true/\2<=q.pts.length then q.pts++[nth q.pts 0] else q.pts
def yP(p:Pl):zi p=zZ (zw p):=rfl
variable{q:Pl}
def zhJ(h:q.cl=true)(k:2<=q.pts.length):zZ q=q.pts++[nth q.pts 0]:=Xe ⟨h,k⟩
def zqa(h:¬(q.cl=true/\2<=q.pts.length)):zZ q=q.pts:=Xc h
def zbK{q:Pl}{i:Nat}(h:i<q.pts.length):nth (zZ q) i=nth q.pts i:=by
 unfold zZ
 split
 .show(q.pts++[nth q.pts 0]).getD i zp=q.pts.getD i zp;rw[Xs,XN h];exact(Xs ..).symm
 rfl
def zsD(h:q.cl=true)(k:2<=q.pts.length):nth (zZ q) q.pts.length=nth q.pts 0:=by
 rw[zhJ h k];show(q.pts++[nth q.pts 0]).getD q.pts.length zp=nth q.pts 0;rw[Xs,XG (Xj _),QT];rfl
def zdo(h:q.cl=true)(k:2<=q.pts.length):(zZ q).length=q.pts.length+1:=by rw[zhJ h k,Xr];rfl
def zb6{q:Pl}(h:¬(q.cl=true/\2<=q.pts.length)):(zZ q).length=q.pts.length:=by rw[zqa h]
def jQ(q:Pl):q.pts.length<=(zZ q).length/\(zZ q).length<=q.pts.length+1:=by
 by_cases h:q.cl=true/\2<=q.pts.length
 .rw[zdo h.1 h.2];omega
 rw[zb6 h];omega
def zmc(q:Pl):List (Pt×Pt):=(List.range ((zZ q).length-1)).map λi=>(nth (zZ q) i,nth (zZ q) (i+1))
def segE(s:Pt×Pt):LR:=[wk s.1,wk s.2]
def zqb(h:i<(zZ q).length-1):(zmc q)[i]?=some (nth (zZ q) i,nth (zZ q) (i+1)):=by
 unfold zmc;rw[XD,KV h];rfl
def zhK(q:Pl):(zmc q).length=(zZ q).length-1:=by unfold zmc;simp
def zuF(q:Pl):CX 311 [wv q] (.dfn 369 [.dptr (plE q)]):=by
 exact yJ 2 tok mix func311 rfl rfl rfl<|.refl
def zEl(q:Pl)(n:q.pts.length<=4096):zfY prog 369 [.dptr (plE q)] segE (zmc q):=by
 refine zkj (caps:=[.dptr (plE q)]) (enc:=segE) (xs:=zmc q) tok mix func369 rfl rfl rfl rfl (λl=>?_);intro j;refine⟨Nat,λk=>⟨[(0,.val (.func (.yield l) #[] #[])),(1,.dptr (plE q)),(3,i64 q.pts.length),(4,i64 ((k:Int)+1))],[],0,45,0⟩,λk=>k,λk=>k<=q.pts.length-1,λk=>q.pts.length-k,0,?_,?_,rfl,rfl,?_⟩
 .exact Xh _
 .exact zB []
 rintro k m
 have ll:=jQ q;refine⟨λg:(k:Int)+1<q.pts.length=>?_,λg:¬(k:Int)+1<q.pts.length=>?_⟩
 .refine YDr.split 12 (Ob.mk (by decide +kernel) ?_);refine wa<|wb λx b=>?_
  have b:=qx (show q.pts[k]?=some x by
   have b:q.pts[((k:Int)+1-1).toNat]?=some x:=b
   rwa [show((k:Int)+1-1).toNat=k by omega]at b)
  refine wb λy d=>?_;have d:=qx (show q.pts[k+1]?=some y from d);refine⟨rfl,(x,y),(by show(zmc q)[k]?=some (x,y);rw[zqb oM,zbK oM,zbK oM,b,d]),rfl,.C (.C .nil),(λ_ _ h=>by cases h),?_⟩;refine Br.mk ?_ ?_
  .refine wa ?_;refine⟨k+1,oM,jv [] ⟨rfl,rfl,rfl,iR oM,tV⟩ trivial,rfl,rfl,oN⟩
  exact .inl rfl
 have ek:k=q.pts.length-1:=oM;have no:¬(q.cl=true/\2<=q.pts.length)->k=(zmc q).length:=λh=>by rw[zhK,zb6 h];exact ek
 refine⟨λc=>?_,λc=>.inr (no λh=>c h.1)⟩;have c:q.cl=true:=c;refine⟨λf=>?_,λf=>.inr (no λh=>by have f:¬(1:Int)<q.pts.length:=f;omega)⟩;have f:(1:Int)<q.pts.length:=f;have le:=zdo c (show 2<=q.pts.length by omega);refine YDr.split 11 (Ob.mk (by decide +kernel) ?_);refine wa<|wb λx b=>?_
 have b:=qx (show q.pts[q.pts.length-1]?=some x by
  have b:q.pts[((q.pts.length:Int)-1).toNat]?=some x:=b
  rwa [show((q.pts.length:Int)-1).toNat=q.pts.length-1 by omega]at b)
 refine wb λy d=>?_;have d:=qx (show q.pts[0]?=some y from d);refine⟨rfl,(x,y),?_,rfl,.C (.C .nil),(λ_ _ h=>by cases h),?_⟩
 .show(zmc q)[k]?=some (x,y);rw[zqb oM,ek,zbK oM,show q.pts.length-1+1=q.pts.length by omega,zsD c oM,b,d]
 refine Br.mk ?_ ?_
 .refine .inr ?_;show k+1=(zmc q).length;rw[zhK];omega
 exact .inl rfl
structure Me where
 ln:LU
 ts:LV
 lg:Int
def meE(m:Me):LR:=[.sl ptE m.ln,.sl zN m.ts,i64 m.lg]
def tsL(c:LU)(n:Nat):LV:=(List.range n).map (atS c)
def zwi(p:Pl):Me:=if ∀q∈p.pts,zm q then⟨(zw p).pts,tsL (zi p) ((zi p).length-1),zM p⟩ else⟨[],[],0⟩
def zBF(c:LU)(n:Nat):tsL c (n+1)=tsL c n++[atS c n]:=by
 unfold tsL;rw[KH,Xz];rfl
def zkp(c:LU)(n:Nat):(tsL c n).length=n:=by unfold tsL;simp
def zi3{c:LU}{n:Nat}{x:Int}(h:(tsL c n)[i]?=some x):x=atS c i:=by
 have hi:i<n:=by have:=(Xd.1 h).1;rwa [zkp]at this
 unfold tsL at h;rw[XD,KV hi]at h;exact(Xl h).symm
def yD(a b:Pt):0<=jp a b/\jp a b<4294967296:=ziJ _
def zak(c:LU)(n:Nat):0<=atS c n/\atS c n<=4294967296*(n:Int):=by
 induction n with
 |zero=>exact⟨K4 0,by show(0:Int)<=_;decide⟩
 |succ n b=>
  have:=yD (nth c n) (nth c (n+1));unfold atS;omega
def zoo(p:Pl)(w:p.pts.length<=4096):CX 248 [wv p] (.tup [.agg (meE (zwi p)),pr (∀q∈p.pts,zm q)]):=by
 refine vn 2 tok mix func248 rfl rfl rfl λv=>?_;refine⟨Nat,λi=>⟨[(1,.loc 0 0),(2,.loc 1 0),(11,.sl ptE p.pts),(12,i64 p.pts.length),(13,i64 i)],[(0,.box 191 [.sl ptE p.pts,pr (p.cl=true)]),(1,.box 268 [nS,nS,i64 0])],2,47,0⟩,λi=>i<=p.pts.length/\∀q∈p.pts.take i,zm q,λi=>p.pts.length-i,0,?_,?_,?_⟩
 .exact⟨Xh _,λq b=>by cases b⟩
 .exact zf [0,1]
 rintro i ⟨B,d⟩
 refine⟨λg:(i:Int)<p.pts.length=>?_,λg:¬(i:Int)<p.pts.length=>?_⟩
 .refine wb λx(s:p.pts[i]?=some x)=>?_;refine wg (qe x)<|⟨λk=>?_,λk=>?_⟩
  .have k:¬∀q∈p.pts,zm q:=λh=>k (h x (Xf s))
   have e:zwi p=⟨[],[],0⟩:=Xc k;rw[e];exact zP (jk (.cons zD (.cons zD (.C .nil)))) (zd k)
  have k:=Xa.1 k;refine wa<|⟨i+1,⟨oM,λq b=>?_⟩,zf [0,1],oN⟩;rw[Xn,s]at b
  rcases Xu.1 b with b|b
  .exact d q b
  simp at b;rw[b];exact k
 rw[Xi oM]at d;have dl:=jB p;have ll:=jQ (zw p);refine wg (zhF p w)<|wg (zuF (zw p)) ?_
 refine⟨Pt×Pt,segE,zmc (zw p),2,[(2,.loc 0 0),(7,.loc 1 0)],λj=>[(0,.box 268 [nS,nS,i64 0]),(1,.box 268 [.sl ptE (zw p).pts,.own 2,i64 (atS (zi p) j)]),(2,.arr 3 zN 1 (tsL (zi p) j))],λ_=>3,zEl (zw p) oM,λ_=>rfl,⟨rfl,rfl,rfl,rfl⟩,
  zB [(0,some 1),(1,some 3),(2,none)],⟨Xh _,rfl⟩,λj=>?_,?_,?_⟩
 .intro k m o;simp only[XA,XW,or_false,KN]at o
  obtain⟨_,rfl⟩|⟨_,rfl⟩|⟨_,rfl⟩:=o
  .rfl
  .rfl
  trivial
 .intro j y c _;have u:j<(zi p).length-1:=by have:=(Xd.1 c).1;rwa [zhK]at this
  have c:y=(nth (zi p) j,nth (zi p) (j+1)):=by rw[zqb u]at c;exact(Xl c).symm
  have t:=zak (zi p) j;have n:=yD y.1 y.2;have A:=zkp (zi p) j;have z:(zi p).length<=4097:=by rw[yP];omega
  refine⟨Int,zN,[atS (zi p) j],rfl,wb0 ?_⟩;refine⟨[atS (zi p) j],rfl,Ob.mk ⟨(by show _*(8:Int)<=_;simp only[Xm,Xo];omega),(by simp only[Xm,Xo];omega),dC,λ_ _=>rfl⟩ ?_⟩;refine wd<|wg (zAC y.2 y.1)<|wg (zAF (zae y.2 y.1)) ?_;unfold jp at n;refine wa<|wh<|zt [0,1,6] ⟨rfl,Xg (λq=>some (Mem.box 268 [.sl ptE (zw p).pts,.own 6,i64 q])) ?_,aR (zBF _ _).symm,tV⟩;rw[c];rfl
 intro _;have e:zwi p=⟨(zw p).pts,tsL (zi p) ((zi p).length-1),zM p⟩:=Xe d;rw[e];have f:=zhK (zw p);rw[←yP]at f;refine zP (jk (.C (.cons (z6 ?_) (.cons (ze ?_) .nil)))) (zH d)
 .rw[f]
 rw[f];rfl
def zsE(pen:Pen)(t:Nat):phD pen t=((t:Int)+256*pen.ph)%qK pen.d:=by unfold phD;exact(Int.add_emod ..).symm
def zeD{d:LV}(h:∀n∈d,0<=n)(hi:i<=d.length):0<=qF d i/\qF d i<=qK d:=by
 have b:=ziQ h (Xh i);have c:=ziQ h hi;rw[uy]at b;rw[yO]at c;exact⟨b,c⟩
variable{a:Nat}{lft:Int}
def ph_at{t:Nat}(c:∀n∈pen.d,0<=n)(b:pen.d[i]?=some e)(m:lft<=256*e)(g:qK pen.d ∣ qF pen.d (i+1)-lft-((a:Int)+256*pen.ph))(j:a<=t)(k:(t:Int)-a<lft):phD pen t=qF pen.d (i+1)-lft+((t:Int)-a):=by
 have hi:i<pen.d.length:=(Xd.1 b).1;have o:=zeD c (show i<=pen.d.length by omega);have s:=zeD c (show i+1<=pen.d.length by omega);have u:=yw b;obtain⟨q,h⟩:=g;rw[zsE];have f:(t:Int)+256*pen.ph=(qF pen.d (i+1)-lft+((t:Int)-a))+qK pen.d*(-q):=by rw[QQ];omega
 rw[f,Int.add_mul_emod_self_left];exact Int.emod_eq_of_lt oM oM
def zFY{t:Nat}(c:∀n∈pen.d,0<=n)(b:pen.d[i]?=some e)(j:lft<=256*e)(h:qK pen.d ∣ qF pen.d (i+1)-lft-((a:Int)+256*pen.ph))(f:a<=t)(g:(t:Int)-a<lft):onD pen t↔i%2=0:=by
 have k:=yw b;unfold onD;rw[ph_at c b j h f g,zfn c b oM oM];show(0+i)%2=0↔_;rw[Kb]
def zEm{b:Nat}{c:Int}(hi:i<pen.d.length)(f:pen.d[(i+1)%pen.d.length]?=some c)(g:qK pen.d ∣ qF pen.d (i+1)-lft-((a:Int)+256*pen.ph))(k:(b:Int)=a+lft):
  qK pen.d ∣ qF pen.d ((i+1)%pen.d.length+1)-256*c-((b:Int)+256*pen.ph):=by
 rw[yw f]
 by_cases h:i+1<pen.d.length
 .rw[XB h]
  rwa [show qF pen.d (i+1)+256*c-256*c-((b:Int)+256*pen.ph)=qF pen.d (i+1)-lft-((a:Int)+256*pen.ph) by omega]
 have j:i+1=pen.d.length:=by omega
 rw[j,J2,uy];rw[j,yO]at g;rw[show(0:Int)+256*c-256*c-((b:Int)+256*pen.ph)=(qK pen.d-lft-((a:Int)+256*pen.ph))-qK pen.d by omega];exact Int.dvd_sub g (Int.dvd_refl _)
def ve(r:Nat)(d:LV)(n:Nat):Int:=((List.range n).map λi=>if i%2=r then d.getD i 0 else 0).sum
def zop(r:Nat)(d:LV)(n:Nat):ve r d (n+1)=ve r d n+if n%2=r then d.getD n 0 else 0:=by
 unfold ve;rw[KH,Xz,QW];simp
def zft{r:Nat}{d:LV}{n:Nat}{x:Int}(b:d[n]?=some x)(h:n%2=r):ve r d (n+1)=ve r d n+x:=by
 rw[zop,Xe h,Xs,b];rfl
def zi4{r:Nat}{d:LV}{n:Nat}(h:¬n%2=r):ve r d (n+1)=ve r d n:=by
 rw[zop,Xc h,Ys]
def zb7(d:LV):∀n,n<=d.length->256*(ve 0 d n+ve 1 d n)=qF d n
 |0,_=>rfl
 |n+1,h=>by
  have c:=zb7 d n oM;have b:d[n]?=some d[n]:=Xb oM;rw[yw b]
  rcases Ya n with k|k
  .rw[zft b k,zi4 (r:=1) oM];omega
  rw[zft b k,zi4 (r:=0) oM];omega
def zeE(d:LV):drawn d=256*ve 0 d d.length:=rfl
def yl{r:Nat}{d:LV}(h:∀n∈d,0<=n):∀n,n<=d.length->0<=ve r d n
 |0,_=>K4 0
 |n+1,f=>by
  have c:=yl (r:=r) h n oM;have b:d[n]?=some d[n]:=Xb oM;have:=h d[n] (X5 _)
  by_cases k:n%2=r
  .rw[zft b k];omega
  rw[zi4 k];exact c
def ym{d:LV}(h:uG d):(∀n∈d,0<=n)/\(∀n∈d,n<=1048576)/\d.length<=16/\qK d<=4294967296:=by
 have c:∀n∈d,n<=1048576:=λn b=>(h.1 n b).2
 have f:d.length<=16:=by have:=h.2.2.2;omega
 have:=zAZ c;exact⟨λn b=>(h.1 n b).1,c,f,by unfold qK;omega⟩
def frI:LK->Int
 |none=> -1
 |some f=>f
def zqc{o:LK}(h:frI o<0):o=none:=by
 cases o with
 |none=>rfl
 |some f=>have h:(f:Int)<0:=h;omega
def zqd{o:LK}(h:¬frI o<0):∃f,o=some f/\frI o=f:=by
 cases o with
 |none=>exact absurd (show(-1:Int)<0 by decide) h
 |some f=>exact⟨f,rfl,rfl⟩
def zyk(pen:Pen)(o:kF pen)(hper:0<qK pen.d):CX 315 [ws pen,i64 0] (.tup [i64 ((yC pen.d (phD pen 0) 0).1:Int),i64 (yC pen.d (phD pen 0) 0).2]):=by
 refine zc func315 ?_;obtain⟨f,n,A,B⟩:=ym o.2.2.2.2.1;have y:=o.2.2.2.2.2;intro v;refine⟨Nat,λi=>⟨[(1,i64 0),(2,.loc 0 0),(6,i64 (qF pen.d i)),(13,.sl zN pen.d),(14,i64 pen.d.length),(15,i64 i)],[(0,.box 55 (jb pen))],1,57,0⟩,λi=>i<=pen.d.length,λi=>pen.d.length-i,0,?_,?_,?_⟩
 .exact Xh _
 .exact zf [0]
 rintro i hi
 have j:=zeD f hi;refine⟨λg:(i:Int)<pen.d.length=>?_,λg:¬(i:Int)<pen.d.length=>?_⟩
 .refine wb λx(b:pen.d[i]?=some x)=>?_;have k:=f x (Xf b);have m:=n x (Xf b);(iterate 3 refine wa ?_);exact⟨i+1,oM,zQ [0] ⟨rfl,rfl,iR (yw b).symm,rfl,rfl,rfl,tV⟩ ⟨rfl,tV⟩,oN⟩
 have ei:i=pen.d.length:=oM;have eP:qF pen.d i=qK pen.d:=by rw[ei,yO]
 have C:=Kj (256*pen.ph) (show qF pen.d i≠0 by omega);have D:=Kg (256*pen.ph) (show 0<qF pen.d i by omega);have E:(0:Int)%qF pen.d i=0:=Int.zero_emod _;have t:=Kj (0%qF pen.d i+256*pen.ph%qF pen.d i) (show qF pen.d i≠0 by omega);have u:=Kg (0%qF pen.d i+256*pen.ph%qF pen.d i) (show 0<qF pen.d i by omega);refine wc<|Dv.pos ⟨oM,oM⟩<|wa<|Dv.pos ⟨oM,oM⟩<|wa<|Dv.pos ⟨oM,oM⟩ ?_
 have ek:phD pen 0=(0%qF pen.d i+256*pen.ph%qF pen.d i)%qF pen.d i:=by rw[eP];rfl
 rw[←ek]at t u;intro w;refine⟨Nat,λi=>⟨[(9,i64 (phD pen 0-qF pen.d i)),(36,.sl zN pen.d),(37,i64 pen.d.length),(38,i64 i)],[],0,57,0⟩,λi=>i<=pen.d.length/\qF pen.d i<=phD pen 0,λi=>pen.d.length-i,0,?_,?_,?_⟩
 .exact⟨Xh _,by rw[uy];exact t⟩
 .exact jv [] ⟨iR (by rw[uy,Int.sub_zero];exact ek.symm),rfl,rfl,rfl,tV⟩ trivial
 rw[eP]at u
 rintro i ⟨hi,h⟩
 have j:=zeD f hi;refine⟨λg:(i:Int)<pen.d.length=>?_,λg:¬(i:Int)<pen.d.length=>?_⟩
 .refine wb λx(b:pen.d[i]?=some x)=>?_;have k:=f x (Xf b);have m:=n x (Xf b);have z:=yw b;refine wa<|Br.mk (λc=>?_) (λc=>?_)
  .have c:phD pen 0-qF pen.d i<256*x:=c;have s:=zfn (i0:=0) f b h oM;(iterate 2 refine wa ?_);refine zP (ze ?_) (ze ?_)
   .rw[s];show(i:Int)=((0+i:Nat):Int);omega
   rw[s];dsimp only;omega
  have c:¬phD pen 0-qF pen.d i<256*x:=c;(iterate 3 refine wa ?_);exact⟨i+1,⟨oM,oM⟩,jv [] ⟨iR (by rw[z];omega),rfl,rfl,rfl,tV⟩ trivial,oN⟩
 have:qF pen.d i=qK pen.d:=by rw[show i=pen.d.length by omega,yO]
 omega
end Go.Gs
