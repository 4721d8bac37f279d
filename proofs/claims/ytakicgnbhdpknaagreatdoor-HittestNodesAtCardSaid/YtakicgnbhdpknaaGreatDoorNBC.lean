/- Caps and dots, rings put aside, vertices counted, both texts. -/
import Derived.Test.YtakicgnbhdpknaaGreatDoorNBB
set_option maxRecDepth 100000
set_option maxHeartbeats 8000000
set_option linter.all false
namespace Go.Gs
open Proofs.Tryz
open Go.Proofs
def zCA(a b:Pt)(p:Pen):CX 381 [wr p,wk a,wk b] (.sl ptE (y5 a b p)):=by
 refine zc func381<|Br.mk (λh=>?_) (λh=>?_)
 ·have h:p.c=5:=h;exact wg (p_cap a b p.w)<|zZ (by unfold y5;rw[Xe h])
 have h:¬p.c=5:=h;refine⟨λk:p.c=3=>?_,λk:¬p.c=3=>?_⟩
 ·exact wg (zsb b p.w)<|zZ (by unfold y5;rw[Xc h,Xe k])
 have e:y5 a b p=[]:=by unfold y5;rw[Xc h,Xc k]
 rw[e];exact zC
def zyw(a:Pt)(p:Pen):CX 377 [wk a,wr p] (.sl ptE (zbd a p)):=by
 refine zc func377<|Br.mk (λh=>?_) (λh=>?_)
 ·have h:p.c=5:=h;exact wg (zDo a p.w)<|zZ (by unfold zbd;rw[Xe h])
 have h:¬p.c=5:=h;refine⟨λk:p.c=3=>?_,λk:¬p.c=3=>?_⟩
 ·exact wg (zsb a p.w)<|zZ (by unfold zbd;rw[Xc h,Xe k])
 have e:zbd a p=[]:=by unfold zbd;rw[Xc h,Xc k]
 rw[e];exact zC
def zyx(a b:Pt)(p:Pen):CX 354 [wk a,wk b,wr p] (.sl ptE (y5 a b p)):=by
 refine zc func354<|Br.mk (λh=>?_) (λh=>?_)
 ·have h:p.c=5:=h;exact wg (r_cap a b p.w)<|zZ (by unfold y5;rw[Xe h])
 have h:¬p.c=5:=h;refine⟨λk:p.c=3=>?_,λk:¬p.c=3=>?_⟩
 ·exact wg (zsa b p.w)<|zZ (by unfold y5;rw[Xc h,Xe k])
 have e:y5 a b p=[]:=by unfold y5;rw[Xc h,Xc k]
 rw[e];exact zC
def zyy(a:Pt)(p:Pen):CX 353 [wk a,wr p] (.sl ptE (zbd a p)):=by
 refine zc func353<|Br.mk (λh=>?_) (λh=>?_)
 ·have h:p.c=5:=h;exact wg (zDp a p.w)<|zZ (by unfold zbd;rw[Xe h])
 have h:¬p.c=5:=h;refine⟨λk:p.c=3=>?_,λk:¬p.c=3=>?_⟩
 ·exact wg (zsa a p.w)<|zZ (by unfold zbd;rw[Xc h,Xe k])
 have e:zbd a p=[]:=by unfold zbd;rw[Xc h,Xc k]
 rw[e];exact zC
def qn{l:LU}{j:Nat}{x:Pt}(h:l[j]?=some x):x=nth l j:=by
 unfold nth;rw[Xt,h];rfl
def zsq(l:LU)(i:Int)(j:Nat)(hl:0<l.length/\l.length<=4096)(hi: -1<=i/\i<=l.length)(hj:((i+l.length)%l.length).toNat=j):
  CX 378 [i64 i,.ptr [.sl ptE l],.ptr [i64 l.length]] (wk (nth l j)):=by
 refine zc func378 ?_;have m1:=Kb (i+l.length) (show(l.length:Int)≠0 by omega);have m2:=X5 (i+l.length) (show 0<(l.length:Int) by omega);refine wc<|wa<|Dv.pos ⟨oM,oM⟩<|Ob.mk ⟨m1,m2⟩ λx hx=>?_;have hx:l[j]?=some x:=by rw[←hj];exact hx
 rw[qn hx];exact .refl
def ut(out rs:LQ):LQ:=out++rs.filter λr=>decide (0<r.length)
def zqB(out:LQ)(r:LU):ut out [r]=out++kM r:=by
 unfold ut kM
 cases r with
 |nil=>rfl
 |cons a b=>rfl
def zyz(out:LQ)(r s:LU):ut out [r,s]=out++kM r++kM s:=by
 unfold ut kM
 cases r <;> cases s <;> simp
def zeD{out rs:LQ}{i:Nat}{x:LU}(h:rs[i]?=some x):ut out (rs.take (i+1))=if 0<x.length then ut out (rs.take i)++[x] else ut out (rs.take i):=by
 unfold ut;rw[Xl,h]
 by_cases c:0<x.length
 ·rw[Xe c];simp[c]
 rw[Xc c];simp[c]
def zgP(out rs:LQ):(ut out rs).length<=out.length+rs.length:=by
 unfold ut;rw[Xq];have:=KX (λr:List Pt=>decide (0<r.length)) rs;omega
def zqC{out rs:LQ}(h:∀r∈rs,0<r.length):ut out rs=out++rs:=by
 unfold ut;congr 1;exact List.filter_eq_self.2 λr hr=>decide_eq_true (h r hr)
variable{r:LU}{q:LU}
def zcb(h:q∈kM r):0<q.length:=by
 unfold kM at h
 split at h
 ·cases h
 rename_i k;rw[Xu.1 h];exact Ka λe=>k (Xp e)
variable{a:Pt}{b:Pt}
def zoy{v:Pt}{p:Pen}:∀r∈qY a v b p,0<r.length:=by
 intro r hr;unfold qY at hr
 split at hr
 ·cases hr
 split at hr
 ·exact zcb hr
 split at hr
 ·cases hr
 exact zcb hr
def zD0(rs:LQ)(hr:rs.length<=4):CG0 376 [.own 1,.loc 0 0] [(0,.box 94 [nS]),(1,.arr 148 zk 1 rs)] (.tup []) [(0,.box 94 [.own 2]),(2,.arr 148 zk 1 (ut [] rs))]:=by
 refine yB tok mix func376 rfl rfl rfl λhl1=>?_;refine⟨Nat,λi=>⟨[(1,.loc 0 0),(5,.own 1),(6,i64 rs.length),(7,i64 i)],[(0,.box 94 [.own 2]),(2,.arr 148 zk 1 (ut [] (rs.take i))),(1,.arr 148 zk 1 rs)],3,19,2⟩,λi=>i<=rs.length,λi=>rs.length-i,0,?_,?_,?_⟩
 ·exact Xh _
 ·exact zB [(0,some 0),(1,some 1),(2,none)]
 rintro i hi
 have pl:=zgP ([]:LQ) (rs.take i);rw[Xo]at pl;refine⟨λg:(i:Int)<rs.length=>?_,λg:¬(i:Int)<rs.length=>?_⟩
 ·refine wb<|wb λx(hx:rs[i]?=some x)=>?_;have e:=zeD (out:=([]:LQ)) hx;intro hl3;refine⟨λk:(0:Int)<x.length=>?_,λk:¬(0:Int)<x.length=>?_⟩
  ·rw[Xe oM]at e;refine⟨LU,zk,[x],rfl,wb0 ?_⟩;refine⟨[x],rfl,Ob.mk ⟨(by show _*(24:Int)<=_;simp only[Xn,Xr]at pl ⊢;omega),(by simp only[Xn,Xr]at pl ⊢;omega),dC,λ_ _=>rfl⟩ ?_⟩;exact wa<|⟨i+1,oM,zu [0,1,4] ⟨rfl,aR e.symm,rfl,tV⟩,oN⟩
  rw[Xc oM]at e;exact wa<|⟨i+1,oM,zu [0,1,2] ⟨rfl,aR e.symm,rfl,tV⟩,oN⟩
 exact⟨⟨[],[(0,.box 94 [.own 2]),(2,.arr 148 zk 1 (ut [] rs))],3,19,2⟩,zu [0,1,2] ⟨rfl,Xg (λq=>some (Mem.arr 148 zk 1 (ut [] q))) (Xi oM),tV⟩,rfl,.refl⟩
def zyA(out rs:LQ)(ho:out.length<=100000)(hr:rs.length<=4):CG0 376 [.own 2,.loc 0 0] [(0,.box 94 [.own 1]),(1,.arr 148 zk 1 out),(2,.arr 148 zk 1 rs)] (.tup []) [(0,.box 94 [.own 3]),(3,.arr 148 zk 1 (ut out rs))]:=by
 refine yB tok mix func376 rfl rfl rfl λhl1=>?_;refine⟨Nat,λi=>⟨[(1,.loc 0 0),(5,.own 2),(6,i64 rs.length),(7,i64 i)],[(0,.box 94 [.own 3]),(3,.arr 148 zk 1 (ut out (rs.take i))),(2,.arr 148 zk 1 rs)],4,19,3⟩,λi=>i<=rs.length,λi=>rs.length-i,0,?_,?_,?_⟩
 ·exact Xh _
 ·exact zu [0,1,2,1] ⟨rfl,aR (XE out).symm,rfl,tV⟩
 rintro i hi
 have pl:=zgP out (rs.take i);rw[Xo]at pl;refine⟨λg:(i:Int)<rs.length=>?_,λg:¬(i:Int)<rs.length=>?_⟩
 ·refine wb<|wb λx(hx:rs[i]?=some x)=>?_;have e:=zeD (out:=out) hx;intro hl3;refine⟨λk:(0:Int)<x.length=>?_,λk:¬(0:Int)<x.length=>?_⟩
  ·rw[Xe oM]at e;refine⟨LU,zk,[x],rfl,wb0 ?_⟩;refine⟨[x],rfl,Ob.mk ⟨(by show _*(24:Int)<=_;simp only[Xn,Xr]at pl ⊢;omega),(by simp only[Xn,Xr]at pl ⊢;omega),dC,λ_ _=>rfl⟩ ?_⟩;exact wa<|⟨i+1,oM,zu [0,1,2,5] ⟨rfl,aR e.symm,rfl,tV⟩,oN⟩
  rw[Xc oM]at e;exact wa<|⟨i+1,oM,zu [0,1,2,3] ⟨rfl,aR e.symm,rfl,tV⟩,oN⟩
 exact⟨⟨[],[(0,.box 94 [.own 3]),(3,.arr 148 zk 1 (ut out rs))],4,19,3⟩,zu [0,1,2,3] ⟨rfl,Xg (λq=>some (Mem.arr 148 zk 1 (ut out q))) (Xi oM),tV⟩,rfl,.refl⟩
def zD1(out rs:LQ)(ho:out.length<=100000)(hr:rs.length<=4):CG0 376 [.sl zk rs,.loc 0 0] [(0,.box 94 [.own 1]),(1,.arr 148 zk 1 out)] (.tup []) [(0,.box 94 [.own 2]),(2,.arr 148 zk 1 (ut out rs))]:=by
 refine yB tok mix func376 rfl rfl rfl λhl1=>?_;refine⟨Nat,λi=>⟨[(1,.loc 0 0),(5,.sl zk rs),(6,i64 rs.length),(7,i64 i)],[(0,.box 94 [.own 2]),(2,.arr 148 zk 1 (ut out (rs.take i)))],3,19,2⟩,λi=>i<=rs.length,λi=>rs.length-i,0,?_,?_,?_⟩
 ·exact Xh _
 ·exact zu [0,1,1] ⟨rfl,aR (XE out).symm,tV⟩
 rintro i hi
 have pl:=zgP out (rs.take i);rw[Xo]at pl;refine⟨λg:(i:Int)<rs.length=>?_,λg:¬(i:Int)<rs.length=>?_⟩
 ·refine wb λx(hx:rs[i]?=some x)=>?_;have e:=zeD (out:=out) hx;intro hl3;refine⟨λk:(0:Int)<x.length=>?_,λk:¬(0:Int)<x.length=>?_⟩
  ·rw[Xe oM]at e;refine⟨LU,zk,[x],rfl,wb0 ?_⟩;refine⟨[x],rfl,Ob.mk ⟨(by show _*(24:Int)<=_;simp only[Xn,Xr]at pl ⊢;omega),(by simp only[Xn,Xr]at pl ⊢;omega),dC,λ_ _=>rfl⟩ ?_⟩;exact wa<|⟨i+1,oM,zu [0,1,4] ⟨rfl,aR e.symm,tV⟩,oN⟩
  rw[Xc oM]at e;exact wa<|⟨i+1,oM,zu [0,1,2] ⟨rfl,aR e.symm,tV⟩,oN⟩
 exact⟨⟨[],[(0,.box 94 [.own 2]),(2,.arr 148 zk 1 (ut out rs))],3,19,2⟩,zu [0,1,2] ⟨rfl,Xg (λq=>some (Mem.arr 148 zk 1 (ut out q))) (Xi oM),tV⟩,rfl,.refl⟩
def zhP(out:LQ)(r:LU)(ho:out.length<=100000):CG0 352 [.own 0,.sl ptE r] [(0,.arr 148 zk 1 out)] (.own 1) [(1,.arr 148 zk 1 (out++kM r))]:=by
 refine yB tok mix func352 rfl rfl rfl λhl1=>?_;refine⟨λk:(r.length:Int)=0=>?_,λk:¬(r.length:Int)=0=>?_⟩
 ·have e:out++kM r=out:=by rw[Xp (show r.length=0 by omega)];unfold kM;rw[Xe rfl,XE]
  rw[e];exact⟨⟨[(4,.own 1)],[(1,.arr 148 zk 1 out)],2,13,1⟩,zf [0,0],rfl,.refl⟩
 have e:out++kM r=out++[r]:=by unfold kM;rw[Xc (λh=>k (by rw[h];rfl))]
 rw[e];refine⟨LU,zk,[r],rfl,wb0 ?_⟩;refine⟨[r],rfl,wb14 ?_⟩;exact⟨⟨[(4,.own 1)],[(1,.arr 148 zk 1 (out++[r]))],2,13,1⟩,zf [0,2],rfl,.refl⟩
def zA1(p:Pt):CX 321 [wk p] (pr (¬zr p)):=by
 exact zc func321<|wg (kY p)<|zE K5
def zyB(F:FuncId)(hF:∀p,CX F [wk p] (pr (¬zr p)))(xs:LU):CX 239 [.sl ptE xs,.fn F []] (i64 (ziq xs)):=by
 refine zc func239 λhl0=>?_;refine⟨Int,λi=>⟨[(8,i64 i),(7,i64 xs.length),(0,.sl ptE xs),(1,.fn F [])],[],0,19,0⟩,λi=>0<=i/\i<=xs.length/\∀(j:Nat) q,(j:Int)<i->xs[j]?=some q->zr q,λi=>((xs.length:Int)-i).toNat,0,?_,?_,?_⟩
 ·exact⟨oM,oM,λj q hj=>by omega⟩
 ·exact zB []
 rintro i ⟨h1,h2,h3⟩
 refine⟨λh4=>?_,λh4=>?_⟩
 ·refine wb λx hx=>wg (hF x)<|⟨λh5=>?_,λh5=>?_⟩
  ·refine ze ?_;rw[zpO (i:=i.toNat) (λj q hj=>h3 j q oM) hx h5];omega
  refine wa<|⟨i+1,⟨oM,oM,λj q hj hq=>?_⟩,zB [],oN⟩
  by_cases e:j=i.toNat
  ·subst e;rw[hx]at hq;cases hq;exact Xa.1 h5
  exact h3 j q oM hq
 refine ze (zfz λp hp=>?_).symm;obtain⟨j,hj,he⟩:=Kl hp;exact h3 j p oM (by rw[←he];exact Xb hj)
def zqD(F:FuncId)(hF:∀p,CX F [wk p] (pr (¬zr p)))(xs:LU):CX 164 [.sl ptE xs,.fn F []] (pr (¬∀p∈xs,zr p)):=by
 exact zc func164<|wg (zyB F hF xs)<|zE zgv
def vF(rs:LQ):Prop:=∀r∈rs,∀p∈r,zr p
instance (rs:LQ):Decidable (vF rs):=inferInstanceAs (Decidable (∀_∈_,_))
def ptsE(rs:LQ):SV:=.tup [i64 (if vF rs then(qa rs:Int) else 0),pr (vF rs)]
def zkP(rs:LQ)(hs:(qa rs:Int)<=4611686018427387904):CX 255 [.sl zk rs] (ptsE rs):=by
 refine zc func255 λhl1=>?_;refine⟨Nat,λi=>⟨[(4,i64 (qa (rs.take i):Int)),(7,.sl zk rs),(8,i64 rs.length),(9,i64 i)],[],0,21,0⟩,λi=>i<=rs.length/\vF (rs.take i),λi=>rs.length-i,0,?_,?_,?_⟩
 ·exact⟨Xh _,λr hr=>by cases hr⟩
 ·exact zB []
 rintro i ⟨h1,h2⟩
 refine⟨λg:(i:Int)<rs.length=>?_,λg:¬(i:Int)<rs.length=>?_⟩
 ·refine wb λx(hx:rs[i]?=some x)=>?_;refine wg (zqD 321 zA1 x)<|⟨λk=>?_,λk=>?_⟩
  ·have k:¬vF rs:=λh=>k (h x (Xf hx))
   refine zM (ze (by rw[Xc k])) (zd k)
  have k:∀p∈x,zr p:=Xa.1 k;intro hl4;have c1:=u7 hx;have c2:=v7 rs (i+1);(iterate 2 refine wa ?_);refine⟨i+1,⟨oM,zcK hx h2 k⟩,ji [] ⟨iR oM,rfl,rfl,rfl,tV⟩ trivial,oN⟩
 rw[Xi oM]at h2;have e:qa (rs.take i)=qa rs:=by rw[Xi oM]
 exact zM (ze (by rw[Xe h2,e])) (zH h2)
def zqE(l:LU):CX 295 [.sl ptE l] (pr (∀p∈l,zr p)):=by
 refine zc func295<|⟨Nat,λi=>⟨[(0,.sl ptE l),(3,i64 i)],[],0,16,0⟩,λi=>i<=l.length/\∀p∈l.take i,zr p,λi=>l.length-i,0,?_,?_,?_⟩
 ·exact⟨Xh _,λp hp=>by cases hp⟩
 ·exact zB []
 rintro i ⟨h1,h2⟩
 intro hl1;refine⟨λg:(i:Int)<l.length=>?_,λg:¬(i:Int)<l.length=>?_⟩
 ·refine wb λx(hx:l[i]?=some x)=>?_;refine wg (z9 x)<|⟨λb=>zd λk=>b (k x (Xf hx)),λb=>?_⟩;have b:=Xa.1 b;refine wa<|⟨i+1,⟨oM,λp hp=>?_⟩,zB [],oN⟩;rw[Xl,hx]at hp
  rcases Xs.1 hp with hp|hp
  ·exact h2 p hp
  simp at hp;rw[hp];exact b
 rw[Xi oM]at h2;exact zH h2
def zt5(rs:LQ)(hs:(qa rs:Int)<=4611686018427387904):CX 234 [.sl zk rs] (i64 (qa rs:Int)):=by
 refine zc func234<|⟨Nat,λi=>⟨[(0,.sl zk rs),(3,i64 (qa (rs.take i):Int)),(4,i64 i)],[],0,19,0⟩,λi=>i<=rs.length,λi=>rs.length-i,0,?_,?_,?_⟩
 ·exact Xh _
 ·exact zB []
 rintro i h1
 intro hl1;refine⟨λg:(i:Int)<rs.length=>?_,λg:¬(i:Int)<rs.length=>?_⟩
 ·refine wb λx(hx:rs[i]?=some x)=>?_;intro hl4;have c1:=u7 hx;have c2:=v7 rs (i+1);(iterate 2 refine wa ?_);refine⟨i+1,oM,ji [] ⟨rfl,iR oM,rfl,tV⟩ trivial,oN⟩
 exact ze (by rw[Xi oM])
def vu(r:LU):(kM r).length<=1:=by unfold kM;split <;> simp
def zdV(l:LU)(w:Int)(n:Nat):LQ:=(List.range n).flatMap λi=>kM (jU (nth l i) (nth l (i+1)) w)
def zhQ(l:LU)(w:Int)(n:Nat):zdV l w (n+1)=zdV l w n++kM (jU (nth l n) (nth l (n+1)) w):=by
 unfold zdV;rw[Kw,Qk,Jg]
def zqF(l:LU)(w:Int)(n:Nat):(zdV l w n).length<=n:=by
 induction n with
 |zero=>exact Xk 0
 |succ n ih=>
  rw[zhQ,Xq];have:=vu (jU (nth l n) (nth l (n+1)) w);omega
def vR(p:Pl)(pen:Pen):kU p pen=zdV p.pts pen.w (p.pts.length-1)++
  (if p.cl=true/\1<p.pts.length then kM (jU (nth p.pts (p.pts.length-1)) (nth p.pts 0) pen.w) else[]):=rfl
def zfL(p:Pl)(pen:Pen):(kU p pen).length<=p.pts.length+1:=by
 rw[vR,Xq];have h1:=zqF p.pts pen.w (p.pts.length-1);have h2:=vu (jU (nth p.pts (p.pts.length-1)) (nth p.pts 0) pen.w)
 split
 ·omega
 rw[Xr];omega
def zyC(p:Pl)(pen:Pen)(hp:p.pts.length<=4096):CG0 350 [ws p,wr pen] [] (.own 0) [(0,.arr 148 zk 1 (kU p pen))]:=by
 refine qC tok mix func350 rfl rfl rfl<|⟨LU,zk,[],rfl,wb2 ?_⟩;intro hl1;refine⟨Nat,λi=>⟨[(2,.loc 0 0),(3,.loc 1 0),(5,.own 2),(6,i64 p.pts.length),(7,i64 i)],[(0,.box 193 [.sl ptE p.pts,pr (p.cl=true)]),(1,.box 61 (jb pen)),(2,.arr 148 zk 1 (zdV p.pts pen.w i))],3,56,0⟩,λi=>i<=p.pts.length-1,λi=>p.pts.length-i,0,?_,?_,?_⟩
 ·exact Xh _
 ·exact zf [0,1,2]
 rintro i hi
 have bl:=zqF p.pts pen.w i;refine wa<|Br.mk (λg=>?_) (λg=>?_)
 ·have g:(i:Int)+1<p.pts.length:=g;refine wd<|wb λx hx=>?_;have hx:=qn (show p.pts[i]?=some x from hx);refine wa<|wb λy hy=>?_;have hy:=qn (show p.pts[i+1]?=some y from hy);refine wg (zxE x y pen.w) ?_
  refine zb.give [2] 1 [.own 0,.sl ptE (jU x y pen.w)] [(0,.arr 148 zk 1 (zdV p.pts pen.w i))] [(1,.arr 148 zk 1 (zdV p.pts pen.w i++kM (jU x y pen.w)))] (.own 1) (zhP (zdV p.pts pen.w i) (jU x y pen.w) oM)
   LEs.refl rfl rfl rfl ⟨⟨_,rfl,rfl,tV⟩,tV⟩ rfl ⟨⟨rfl,tV⟩,tV⟩ ?_
  refine wh<|wa ?_;refine⟨i+1,oM,zu [0,1,3] ⟨rfl,rfl,aR (by rw[zhQ,←hx,←hy]),tV⟩,oN⟩
 have g:¬(i:Int)+1<p.pts.length:=g;have ei:i=p.pts.length-1:=oM
 have no:¬(p.cl=true/\1<p.pts.length)->∃k,za3 k (.own 2) (.own 0)/\zwR [(0,.box 193 [.sl ptE p.pts,pr (p.cl=true)]),(1,.box 61 (jb pen)),(2,.arr 148 zk 1 (zdV p.pts pen.w i))] k (.arr 148 zk 1 (kU p pen)):=λh=>by
  refine⟨some 2,.own _ rfl,aR ?_,λ_ _=>rfl⟩;rw[vR,Xc h,ei,XE]
 refine⟨λc=>?_,λc=>no λh=>c h.1⟩;refine⟨λc2=>?_,λc2=>no λh=>c2 (show(1:Int)<p.pts.length by have:=h.2;omega)⟩
 have c:p.cl=true:=c;have c2:(1:Int)<p.pts.length:=c2;refine wd<|wa<|wb λx hx=>?_;have hx:=qn (show p.pts[((p.pts.length:Int)-1).toNat]?=some x from hx);refine wb λy hy=>?_;have hy:=qn (show p.pts[0]?=some y from hy);refine wg (zxE x y pen.w) ?_
 refine zb.give [2] 1 [.own 0,.sl ptE (jU x y pen.w)] [(0,.arr 148 zk 1 (zdV p.pts pen.w i))] [(1,.arr 148 zk 1 (zdV p.pts pen.w i++kM (jU x y pen.w)))] (.own 1) (zhP (zdV p.pts pen.w i) (jU x y pen.w) oM)
  LEs.refl rfl rfl rfl ⟨⟨_,rfl,rfl,tV⟩,tV⟩ rfl ⟨⟨rfl,tV⟩,tV⟩ ?_
 refine wh<|⟨some 3,.own _ rfl,aR ?_,λ_ _=>rfl⟩;rw[vR,Xe ⟨c,oM⟩,ei,hx,hy,show((p.pts.length:Int)-1).toNat=p.pts.length-1 by omega]
def zfd(p:Pl)(pen:Pen)(i:Nat):LQ:=if¬p.cl=true/\(i=0∨i=p.pts.length-1) then[]
  else qY (nth p.pts ((i+p.pts.length-1)%p.pts.length)) (nth p.pts i) (nth p.pts ((i+1)%p.pts.length)) pen
def yd(p:Pl)(pen:Pen)(n:Nat):LQ:=(List.range n).flatMap (zfd p pen)
def zfM(p:Pl)(pen:Pen)(n:Nat):yd p pen (n+1)=yd p pen n++zfd p pen n:=by
 unfold yd;rw[Kw,Qk,Jg]
def zcc(p:Pl)(pen:Pen):jc p pen=if p.pts.length<=1 then[] else yd p pen p.pts.length:=rfl
def zhR(a v b:Pt)(p:Pen):(qY a v b p).length<=1:=by
 unfold qY
 split
 ·decide
 split
 ·exact vu _
 split
 ·decide
 exact vu _
def zvB(p:Pl)(pen:Pen)(i:Nat):(zfd p pen i).length<=1:=by
 unfold zfd
 split
 ·decide
 exact zhR ..
def zhS(p:Pl)(pen:Pen)(n:Nat):(yd p pen n).length<=n:=by
 induction n with
 |zero=>exact Xk 0
 |succ n ih=>
  rw[zfM,Xq];have:=zvB p pen n;omega
def zmS(p:Pl)(pen:Pen):(jc p pen).length<=p.pts.length:=by
 rw[zcc]
 split
 ·exact Xh _
 exact zhS ..
def zvC{out rs:LQ}{i:Nat}{x:LU}(h:rs[i]?=some x):ut out (rs.take (i+1))=ut out (rs.take i)++kM x:=by
 rw[zeD h];unfold kM
 cases x with
 |nil=>simp
 |cons a b=>simp
def zA2(p:Pl)(pen:Pen)(hp:p.pts.length<=4096):CX 351 [ws p,wr pen] (.sl zk (jc p pen)):=by
 refine zc func351<|⟨LU,zk,[],rfl,wb2 ?_⟩;intro hl1;refine⟨Nat,λi=>⟨[(2,.loc 0 0),(3,.loc 1 0),(5,.own 2),(6,i64 p.pts.length),(7,i64 i)],[(0,.box 193 [.sl ptE p.pts,pr (p.cl=true)]),(1,.box 61 (jb pen)),(2,.arr 148 zk 1 (yd p pen i))],3,74,0⟩,λi=>i<=p.pts.length/\(p.pts.length<=1->i=0),λi=>p.pts.length-i,0,?_,?_,?_⟩
 ·exact⟨Xh _,λ_=>rfl⟩
 ·exact zf [0,1,2]
 rintro i ⟨hi,h1⟩
 have bl:=zhS p pen i;have e:=zfM p pen i
 have over:(p.pts.length<=i∨p.pts.length<=1)->LE (.sl zk (yd p pen i)) (.sl zk (jc p pen)):=λh=>by
  refine zZ ?_;rw[zcc]
  split
  ·rename_i k;rw[h1 k];rfl
  rw[show i=p.pts.length by omega]
 refine⟨λg=>?_,λg=>over (.inl (by have g:¬(i:Int)<p.pts.length:=g;omega))⟩;have g:(i:Int)<p.pts.length:=g;refine⟨λg2=>?_,λg2=>over (.inr (by have g2:¬(1:Int)<p.pts.length:=g2;omega))⟩;have g2:(1:Int)<p.pts.length:=g2
 have skip:¬p.cl=true->i=0∨i=p.pts.length-1->yd p pen i=yd p pen (i+1):=λh k=>by
  rw[e,show zfd p pen i=[] from Xe ⟨h,k⟩,XE]
 refine⟨λc=>Br.mk (λc1=>?A) (λc1=>Ar.fit oM (Br.mk (λc2=>?B) (λc2=>?C))),λc=>?D⟩
 case A=>
  have c1:(i:Int)=0:=c1;exact wa<|⟨i+1,⟨oM,λ_=>by omega⟩,zu [0,1,2] ⟨rfl,rfl,aR (skip c (.inl oM)),tV⟩,oN⟩
 case B=>
  have c2:(i:Int)=p.pts.length-1:=c2;exact wa<|⟨i+1,⟨oM,λ_=>by omega⟩,zu [0,1,2] ⟨rfl,rfl,aR (skip c (.inr oM)),tV⟩,oN⟩
 case' C=>
  have c1:¬(i:Int)=0:=c1;have c2:¬(i:Int)=p.pts.length-1:=c2;replace c:¬(¬p.cl=true/\(i=0∨i=p.pts.length-1)):=λh=>oM
 case' D=>replace c:¬(¬p.cl=true/\(i=0∨i=p.pts.length-1)):=λh=>c h.1
 all_goals
  have m1:=Kb ((i:Int)+p.pts.length-1) (show(p.pts.length:Int)≠0 by omega);have m2:=X5 ((i:Int)+p.pts.length-1) (show 0<(p.pts.length:Int) by omega);have m3:=Kb ((i:Int)+1) (show(p.pts.length:Int)≠0 by omega);have m4:=X5 ((i:Int)+1) (show 0<(p.pts.length:Int) by omega)
  have e1:(((i:Int)+p.pts.length-1)%p.pts.length).toNat=(i+p.pts.length-1)%p.pts.length:=by
   rw[show(i:Int)+p.pts.length-1=((i+p.pts.length-1:Nat):Int) by omega];omega
  have e2:(((i:Int)+1)%p.pts.length).toNat=(i+1)%p.pts.length:=by
   rw[show(i:Int)+1=((i+1:Nat):Int) by omega];omega
  refine wd ?_;(iterate 2 refine wa ?_);refine Dv.pos ⟨oM,oM⟩<|Ob.mk ⟨m1,m2⟩ λx hx=>?_;have hx:=qn (show p.pts[(((i:Int)+p.pts.length-1)%p.pts.length).toNat]?=some x from hx);rw[e1]at hx;refine wb λy hy=>?_;have hy:=qn (show p.pts[i]?=some y from hy);refine wa<|Dv.pos ⟨oM,oM⟩<|Ob.mk ⟨m3,m4⟩ λz hz=>?_;have hz:=qn (show p.pts[(((i:Int)+1)%p.pts.length).toNat]?=some z from hz);rw[e2]at hz;refine wg (zDQ x y z pen)<|wh ?_;have jl:=zhR x y z pen
  refine⟨Nat,λj=>⟨[(2,.loc 0 0),(3,.loc 1 0),(5,.own 2),(6,i64 p.pts.length),(7,i64 i),(8,.sl zk (qY x y z pen)),(9,i64 j)],[(0,.box 193 [.sl ptE p.pts,pr (p.cl=true)]),(1,.box 61 (jb pen)),(2,.arr 148 zk 1 (ut (yd p pen i) ((qY x y z pen).take j)))],3,74,0⟩,λj=>j<=(qY x y z pen).length,λj=>(qY x y z pen).length-j,0,?_,?_,?_⟩
  ·exact Xh _
  ·exact zu [0,1,2] ⟨rfl,rfl,aR (XE (yd p pen i)).symm,tV⟩
  rintro j hj
  have pl:=zgP (yd p pen i) ((qY x y z pen).take j);rw[Xo]at pl;intro hl4;refine⟨λk:(j:Int)<(qY x y z pen).length=>?_,λk:¬(j:Int)<(qY x y z pen).length=>?_⟩
  ·refine wb λr hr=>?_;have hr:=zvC (out:=yd p pen i) (show(qY x y z pen)[j]?=some r from hr)
   refine zb.give [2] 1 [.own 0,.sl ptE r] [(0,.arr 148 zk 1 (ut (yd p pen i) ((qY x y z pen).take j)))] [(1,.arr 148 zk 1 (ut (yd p pen i) ((qY x y z pen).take j)++kM r))] (.own 1) (zhP (ut (yd p pen i) ((qY x y z pen).take j)) r oM)
    LEs.refl rfl rfl rfl ⟨⟨_,rfl,rfl,tV⟩,tV⟩ rfl ⟨⟨rfl,tV⟩,tV⟩ ?_
   refine wa ?_;refine⟨j+1,oM,zu [0,1,3] ⟨rfl,rfl,aR hr.symm,tV⟩,oN⟩
  refine wa<|⟨i+1,⟨oM,λ_=>by omega⟩,zu [0,1,2] ⟨rfl,rfl,aR ?_,tV⟩,oN⟩;rw[Xi oM,zqC zoy,e,show zfd p pen i=qY x y z pen by rw[hx,hy,hz];exact Xc c]
variable{p:Pl}{pen:Pen}
def zqG(h:p.pts.length=1):zdJ p pen=kM (zbd (nth p.pts 0) pen):=by unfold zdJ;rw[Xe h]
def zqH(h:1<p.pts.length)(k:¬p.cl=true):zdJ p pen=kM (y5 (nth p.pts 1) (nth p.pts 0) pen)++kM (y5 (nth p.pts (p.pts.length-2)) (nth p.pts (p.pts.length-1)) pen):=by
 unfold zdJ;rw[Xc (show¬p.pts.length=1 by omega),Xe ⟨h,k⟩]
def zoz(h:¬p.pts.length=1)(k:¬(1<p.pts.length/\¬p.cl=true)):zdJ p pen=[]:=by
 unfold zdJ;rw[Xc h,Xc k]
def zyD(p:Pl)(pen:Pen):(zdJ p pen).length<=2:=by
 unfold zdJ
 split
 ·have:=vu (zbd (nth p.pts 0) pen);omega
 split
 ·have h1:=vu (y5 (nth p.pts 1) (nth p.pts 0) pen);have h2:=vu (y5 (nth p.pts (p.pts.length-2)) (nth p.pts (p.pts.length-1)) pen);rw[Xq];omega
 decide
def zsr(p:Pl)(pen:Pen):(ku p pen).length<=2*p.pts.length+3:=by
 unfold ku;rw[Xq,Xq];have h1:=zfL p pen;have h2:=zmS p pen;have h3:=zyD p pen;omega
def zmT(h:¬1<p.pts.length):kU p pen=zdV p.pts pen.w (p.pts.length-1):=by
 rw[vR,Xc (λk=>h k.2),XE]
def zqI(h:p.pts.length<=1):jc p pen=[]:=by rw[zcc,Xe h]
def zss(h:p.pts.length=0):ku p pen=[]:=by
 unfold ku;rw[zmT oM,zqI oM,zoz oM oM,h];rfl
def zst(h:p.pts.length=1):ku p pen=kM (zbd (nth p.pts 0) pen):=by
 unfold ku;rw[zmT oM,zqI oM,zqG h,h];rfl
def zvD(p:Pl)(pen:Pen)(hp:p.pts.length<=4096):CX 296 [ws p,wr pen] (.sl zk (ku p pen)):=by
 refine zc func296<|zb.fresh _ _ (zyC p pen hp) rfl (λ_ _=>rfl) (.inl rfl)<|wg (zA2 p pen hp) ?_;have lb:=zfL p pen;have lj:=zmS p pen;refine⟨Nat,λi=>⟨[(2,.loc 0 0),(3,.loc 1 0),(5,.own 2),(6,.sl zk (jc p pen)),(7,i64 i)],[(0,.box 193 [.sl ptE p.pts,pr (p.cl=true)]),(1,.box 61 (jb pen)),(2,.arr 148 zk 1 (kU p pen++(jc p pen).take i))],3,77,0⟩,λi=>i<=(jc p pen).length,λi=>(jc p pen).length-i,0,?_,?_,?_⟩
 ·exact Xh _
 ·exact zu [0,1,2] ⟨rfl,rfl,aR (XE (kU p pen)).symm,tV⟩
 rintro i hi
 intro hl1;refine⟨λg:(i:Int)<(jc p pen).length=>?_,λg:¬(i:Int)<(jc p pen).length=>?_⟩
 ·refine wb λx(hx:(jc p pen)[i]?=some x)=>?_;refine⟨LU,zk,[x],rfl,wb0 ?_⟩;refine⟨[x],rfl,wb24 ?_⟩;refine wa ?_;refine⟨i+1,oM,zu [0,1,4] ⟨rfl,rfl,aR (by rw[Xl,hx];exact XZ ..),tV⟩,oN⟩
 have et:(jc p pen).take i=jc p pen:=Xi oM;have ll:(kU p pen++(jc p pen).take i).length<=100000:=by rw[et,Xq];omega
 intro hl2;refine⟨λn1:(p.pts.length:Int)=1=>?_,λn1=>?_⟩
 ·refine wd<|wb λx hx=>?_;have hx:=qn (show p.pts[0]?=some x from hx);refine wg (zyy x pen) ?_
  refine zb.give [2] 1 [.own 0,.sl ptE (zbd x pen)] [(0,.arr 148 zk 1 (kU p pen++(jc p pen).take i))] [(1,.arr 148 zk 1 (kU p pen++(jc p pen).take i++kM (zbd x pen)))] (.own 1) (zhP (kU p pen++(jc p pen).take i) (zbd x pen) ll)
   LEs.refl rfl rfl rfl ⟨⟨_,rfl,rfl,tV⟩,tV⟩ rfl ⟨⟨rfl,tV⟩,tV⟩ ?_
  refine wh<|⟨λk=>absurd k oM,λ_=>?_⟩;refine zZ ?_;unfold ku;rw[et,zqG oM,hx]
 have n1:¬(p.pts.length:Int)=1:=n1
 have no:¬(1<p.pts.length/\¬p.cl=true)->LE (.sl zk (kU p pen++(jc p pen).take i)) (.sl zk (ku p pen)):=λh=>by
  refine zZ ?_;unfold ku;rw[et,zoz oM h,XE]
 refine⟨λk=>?_,λk=>no λh=>by have k:¬(1:Int)<p.pts.length:=k;omega⟩;have k:(1:Int)<p.pts.length:=k;refine⟨λc=>?_,λc=>no λh=>c h.2⟩;have c:¬p.cl=true:=c;refine wd<|wb λx hx=>?_;have hx:=qn (show p.pts[1]?=some x from hx);refine wb λy hy=>?_;have hy:=qn (show p.pts[0]?=some y from hy);refine wg (zyx x y pen) ?_;have s1:=vu (y5 x y pen)
 refine zb.give [2] 1 [.own 0,.sl ptE (y5 x y pen)] [(0,.arr 148 zk 1 (kU p pen++(jc p pen).take i))] [(1,.arr 148 zk 1 (kU p pen++(jc p pen).take i++kM (y5 x y pen)))] (.own 1) (zhP (kU p pen++(jc p pen).take i) (y5 x y pen) ll)
  LEs.refl rfl rfl rfl ⟨⟨_,rfl,rfl,tV⟩,tV⟩ rfl ⟨⟨rfl,tV⟩,tV⟩ ?_
 refine wh<|wd<|wa<|wb λu hu=>?_;have hu:=qn (show p.pts[((p.pts.length:Int)-2).toNat]?=some u from hu);rw[show((p.pts.length:Int)-2).toNat=p.pts.length-2 by omega]at hu;refine wa<|wb λv hv=>?_;have hv:=qn (show p.pts[((p.pts.length:Int)-1).toNat]?=some v from hv);rw[show((p.pts.length:Int)-1).toNat=p.pts.length-1 by omega]at hv;refine wg (zyx u v pen) ?_
 refine zb.give [3] 1 [.own 0,.sl ptE (y5 u v pen)] [(0,.arr 148 zk 1 (kU p pen++(jc p pen).take i++kM (y5 x y pen)))] [(1,.arr 148 zk 1 (kU p pen++(jc p pen).take i++kM (y5 x y pen)++kM (y5 u v pen)))] (.own 1) (zhP (kU p pen++(jc p pen).take i++kM (y5 x y pen)) (y5 u v pen) (by rw[et,Xq,Xq];omega))
  LEs.refl rfl rfl rfl ⟨⟨_,rfl,rfl,tV⟩,tV⟩ rfl ⟨⟨rfl,tV⟩,tV⟩ ?_
 refine wh<|zZ ?_;unfold ku;rw[et,zqH oM c,hx,hy,hu,hv];exact XZ ..
def zkQ(p:Pl)(pen:Pen)(n:Nat):LQ:=(List.range n).flatMap λi=>kM (jU (nth p.pts i) (nth p.pts ((i+1)%p.pts.length)) pen.w)
def zeE(p:Pl)(pen:Pen)(n:Nat):zkQ p pen (n+1)=zkQ p pen n++kM (jU (nth p.pts n) (nth p.pts ((n+1)%p.pts.length)) pen.w):=by
 unfold zkQ;rw[Kw,Qk,Jg]
def zoA(p:Pl)(pen:Pen):∀n,n<p.pts.length->zkQ p pen n=zdV p.pts pen.w n
 |0,_=>rfl
 |n+1,h=>by rw[zeE,zhQ,zoA p pen n oM,Xy h]
def zyE(p:Pl)(pen:Pen)(n:Nat):(zkQ p pen n).length<=n:=by
 induction n with
 |zero=>exact Xk 0
 |succ n ih=>
  rw[zeE,Xq];have:=vu (jU (nth p.pts n) (nth p.pts ((n+1)%p.pts.length)) pen.w);omega
def zdW(p:Pl):Nat:=if p.cl=true then p.pts.length else p.pts.length-1
def zqJ(h:p.cl=true):zdW p=p.pts.length:=Xe h
def zt6(h:¬p.cl=true):zdW p=p.pts.length-1:=Xc h
def zA3(p:Pl):zdW p<=p.pts.length:=by unfold zdW;split <;> omega
def zyF(h:1<p.pts.length):zkQ p pen (zdW p)=kU p pen:=by
 rw[vR]
 by_cases c:p.cl=true
 ·rw[zqJ c,Xe ⟨c,h⟩];obtain⟨m,hm⟩:∃m,p.pts.length=m+1:=⟨p.pts.length-1,oM⟩;rw[hm,zeE,zoA p pen m oM,hm,J9];rfl
 rw[zt6 c,Xc (λh=>c h.1),zoA p pen _ oM,XE]
def zA4(p:Pl)(pen:Pen)(hp:p.pts.length<=4096):CX 320 [ws p,wr pen] (.sl zk (ku p pen)):=by
 refine zc func320 λhl1=>?_;refine⟨λn0:(p.pts.length:Int)=0=>?_,λn0:¬(p.pts.length:Int)=0=>?_⟩
 ·rw[zss oM];exact zC
 refine⟨λn1:(p.pts.length:Int)=1=>?_,λn1:¬(p.pts.length:Int)=1=>?_⟩
 ·refine wd<|wb λx hx=>?_;have hx:=qn (show p.pts[0]?=some x from hx);refine wg (zyw x pen)<|⟨LU,zk,[zbd x pen],rfl,wb0 ?_⟩
  refine zb.give [2,5] 1 [.own 1,.loc 0 0] [(0,.box 94 [nS]),(1,.arr 148 zk 1 [zbd x pen])] [(0,.box 94 [.own 2]),(2,.arr 148 zk 1 (ut [] [zbd x pen]))] (.tup []) (zD0 [zbd x pen] sI)
   LEs.refl rfl rfl rfl ⟨⟨_,rfl,rfl,rfl⟩,⟨_,rfl,rfl,tV⟩,tV⟩ rfl ⟨⟨rfl,rfl⟩,⟨rfl,tV⟩,tV⟩ ?_
  refine wh<|zZ ?_;rw[zst oM,←hx,zqB];rfl
 refine wa ?_;have h2:1<p.pts.length:=oM;refine⟨λc=>?C,λc=>?D⟩
 case' C=>
  have c:p.cl=true:=c;have hL:=zqJ c
 case' D=>
  have c:¬p.cl=true:=c;have hL:=zt6 c
 all_goals
  have hle:=zA3 p;refine⟨Nat,λi=>⟨[(2,.loc 0 0),(3,.loc 1 0),(5,.loc 2 0),(6,.fn 376 [.loc 2 0]),(7,.loc 3 0),(8,.loc 4 0),(9,.fn 378 [.loc 3 0,.loc 4 0]),(39,i64 (zdW p:Int)),(40,i64 i)],[(0,.box 193 [.sl ptE p.pts,pr (p.cl=true)]),(1,.box 61 (jb pen)),(2,.box 94 [.own 5]),(3,.box 148 [.sl ptE p.pts]),(4,.box 3 [i64 p.pts.length]),(5,.arr 148 zk 1 (zkQ p pen i))],6,121,0⟩,λi=>i<=zdW p,λi=>zdW p-i,0,?_,?_,?_⟩
  ·exact Xh _
  ·exact ji [(0,some 0),(1,some 1),(2,some 2),(3,some 3),(4,some 4),(5,none)] ⟨rfl,rfl,rfl,rfl,rfl,rfl,rfl,iR oM,rfl,tV⟩ ⟨rfl,rfl,rfl,rfl,rfl,rfl,tV⟩
  rintro i hi
  have bl:=zyE p pen i;refine⟨λg:(i:Int)<zdW p=>?_,λg:¬(i:Int)<zdW p=>?_⟩
  ·refine wd<|wb λx hx=>?_;have hx:=qn (show p.pts[i]?=some x from hx);refine wa<|wg (zsq p.pts ((i:Int)+1) ((i+1)%p.pts.length) ⟨oM,hp⟩ ⟨oM,oM⟩ (by rw[show(i:Int)+1+p.pts.length=((i+1:Nat):Int)+(p.pts.length:Int) by omega,Int.add_emod_right];omega))<|wg (zDn x (nth p.pts ((i+1)%p.pts.length)) pen.w)<|⟨LU,zk,[jU x (nth p.pts ((i+1)%p.pts.length)) pen.w],rfl,wb0 ?_⟩
   refine zb.give [2,5,6] 1 [.own 2,.loc 0 0] [(0,.box 94 [.own 1]),(1,.arr 148 zk 1 (zkQ p pen i)),(2,.arr 148 zk 1 [jU x (nth p.pts ((i+1)%p.pts.length)) pen.w])] [(0,.box 94 [.own 3]),(3,.arr 148 zk 1 (ut (zkQ p pen i) [jU x (nth p.pts ((i+1)%p.pts.length)) pen.w]))] (.tup []) (zyA (zkQ p pen i) [jU x (nth p.pts ((i+1)%p.pts.length)) pen.w] oM sI)
      LEs.refl rfl rfl rfl ⟨⟨_,rfl,rfl,rfl⟩,⟨_,rfl,rfl,tV⟩,⟨_,rfl,rfl,tV⟩,tV⟩ rfl ⟨⟨rfl,rfl⟩,⟨rfl,tV⟩,tV⟩ ?_
   refine wh<|wa ?_;refine⟨i+1,oM,zu [0,1,2,3,4,7] ⟨rfl,rfl,rfl,rfl,rfl,aR (by rw[zeE,zqB,hx]),tV⟩,oN⟩
  have eb:zkQ p pen i=kU p pen:=by rw[←zyF h2,show i=zdW p by omega]
  refine⟨Nat,λi=>⟨[(2,.loc 0 0),(3,.loc 1 0),(5,.loc 2 0),(6,.fn 376 [.loc 2 0]),(7,.loc 3 0),(8,.loc 4 0),(9,.fn 378 [.loc 3 0,.loc 4 0]),(58,i64 p.pts.length),(59,i64 i)],[(0,.box 193 [.sl ptE p.pts,pr (p.cl=true)]),(1,.box 61 (jb pen)),(2,.box 94 [.own 5]),(3,.box 148 [.sl ptE p.pts]),(4,.box 3 [i64 p.pts.length]),(5,.arr 148 zk 1 (kU p pen++yd p pen i))],6,121,0⟩,λi=>i<=p.pts.length,λi=>p.pts.length-i,0,?_,?_,?_⟩
  ·exact Xh _
  ·exact zu [0,1,2,3,4,5] ⟨rfl,rfl,rfl,rfl,rfl,aR (by rw[eb];exact(XE _).symm),tV⟩
  rintro i hi
  have lb:=zfL p pen;have lj:=zhS p pen i;have ll:(kU p pen++yd p pen i).length<=50000:=by rw[Xq];omega
  have ej:=zfM p pen i;refine⟨λg=>?_,λg=>?_⟩;rotate_left
  ·have g:¬(i:Int)<p.pts.length:=g;have ei:yd p pen i=jc p pen:=by rw[zcc,Xc oM,show i=p.pts.length by omega]
   refine⟨λo=>?_,λo=>?_⟩;rotate_left
   ·refine zZ ?_;unfold ku;rw[ei,zoz oM (λh=>o h.2),XE]
   have o:¬p.cl=true:=o;refine wd<|wb λx hx=>?_;have hx:=qn (show p.pts[1]?=some x from hx);refine wb λy hy=>?_;have hy:=qn (show p.pts[0]?=some y from hy);refine wg (zCA x y pen)<|wa<|wb λu hu=>?_;have hu:=qn (show p.pts[((p.pts.length:Int)-2).toNat]?=some u from hu);rw[show((p.pts.length:Int)-2).toNat=p.pts.length-2 by omega]at hu;refine wa<|wb λv hv=>?_;have hv:=qn (show p.pts[((p.pts.length:Int)-1).toNat]?=some v from hv)
   rw[show((p.pts.length:Int)-1).toNat=p.pts.length-1 by omega]at hv;refine wg (zCA u v pen)<|⟨LU,zk,[y5 x y pen,y5 u v pen],rfl,wb0 ?_⟩
   refine zb.give [2,5,6] 1 [.own 2,.loc 0 0] [(0,.box 94 [.own 1]),(1,.arr 148 zk 1 (kU p pen++yd p pen i)),(2,.arr 148 zk 1 [y5 x y pen,y5 u v pen])] [(0,.box 94 [.own 3]),(3,.arr 148 zk 1 (ut (kU p pen++yd p pen i) [y5 x y pen,y5 u v pen]))] (.tup []) (zyA (kU p pen++yd p pen i) [y5 x y pen,y5 u v pen] oM sI)
      LEs.refl rfl rfl rfl ⟨⟨_,rfl,rfl,rfl⟩,⟨_,rfl,rfl,tV⟩,⟨_,rfl,rfl,tV⟩,tV⟩ rfl ⟨⟨rfl,rfl⟩,⟨rfl,tV⟩,tV⟩ ?_
   refine wh<|zZ ?_;unfold ku;rw[zyz,ei,zqH h2 o,hx,hy,hu,hv];exact XZ ..
  have g:(i:Int)<p.pts.length:=g
  have skip:¬p.cl=true->i=0∨i=p.pts.length-1->kU p pen++yd p pen i=kU p pen++yd p pen (i+1):=λh k=>by
   rw[ej,show zfd p pen i=[] from Xe ⟨h,k⟩,XE]
  refine⟨λk=>?_,λk=>Br.mk (λk1=>Ar.fit oM (Br.mk (λk2=>?_) (λk2=>?_))) (λk1=>?_)⟩;rotate_left 2
  ·have k2:¬(i:Int)<(p.pts.length:Int)-1:=k2;exact wa<|⟨i+1,oM,zu [0,1,2,3,4,5] ⟨rfl,rfl,rfl,rfl,rfl,aR (skip k (.inr oM)),tV⟩,oN⟩
  ·have k1:¬(0:Int)<(i:Int):=k1;exact wa<|⟨i+1,oM,zu [0,1,2,3,4,5] ⟨rfl,rfl,rfl,rfl,rfl,aR (skip k (.inl oM)),tV⟩,oN⟩
  all_goals
   have kk:¬(¬p.cl=true/\(i=0∨i=p.pts.length-1)):=by
    first
    |exact λh=>h.1 k
    |exact λh=>absurd h.2 (by have k1:(0:Int)<(i:Int):=k1;have k2:(i:Int)<(p.pts.length:Int)-1:=k2;omega)
   refine wd<|wa<|wg (zsq p.pts ((i:Int)-1) ((i+p.pts.length-1)%p.pts.length) ⟨oM,hp⟩ ⟨oM,oM⟩ (by rw[show(i:Int)-1+p.pts.length=((i+p.pts.length-1:Nat):Int) by omega];omega))<|wb λx hx=>?_;have hx:=qn (show p.pts[i]?=some x from hx);refine wa<|wg (zsq p.pts ((i:Int)+1) ((i+1)%p.pts.length) ⟨oM,hp⟩ ⟨oM,oM⟩ (by rw[show(i:Int)+1+p.pts.length=((i+1:Nat):Int)+(p.pts.length:Int) by omega,Int.add_emod_right];omega)) ?_
   refine wg (zDP (nth p.pts ((i+p.pts.length-1)%p.pts.length)) x (nth p.pts ((i+1)%p.pts.length)) pen) ?_;have jl:=zhR (nth p.pts ((i+p.pts.length-1)%p.pts.length)) x (nth p.pts ((i+1)%p.pts.length)) pen
   refine zb.give [2,5] 1 [.sl zk (qY (nth p.pts ((i+p.pts.length-1)%p.pts.length)) x (nth p.pts ((i+1)%p.pts.length)) pen),.loc 0 0] [(0,.box 94 [.own 1]),(1,.arr 148 zk 1 (kU p pen++yd p pen i))] [(0,.box 94 [.own 2]),(2,.arr 148 zk 1 (ut (kU p pen++yd p pen i) (qY (nth p.pts ((i+p.pts.length-1)%p.pts.length)) x (nth p.pts ((i+1)%p.pts.length)) pen)))] (.tup []) (zD1 (kU p pen++yd p pen i) (qY (nth p.pts ((i+p.pts.length-1)%p.pts.length)) x (nth p.pts ((i+1)%p.pts.length)) pen) oM oM)
    LEs.refl rfl rfl rfl ⟨⟨_,rfl,rfl,rfl⟩,⟨_,rfl,rfl,tV⟩,tV⟩ rfl ⟨⟨rfl,rfl⟩,⟨rfl,tV⟩,tV⟩ ?_
   refine wh<|wa<|⟨i+1,oM,zu [0,1,2,3,4,6] ⟨rfl,rfl,rfl,rfl,rfl,aR ?_,tV⟩,oN⟩;rw[zqC zoy,ej,show zfd p pen i=qY (nth p.pts ((i+p.pts.length-1)%p.pts.length)) (nth p.pts i) (nth p.pts ((i+1)%p.pts.length)) pen from Xc kk,hx];exact XZ ..
def zcd{k:Nat}(h:r.length<=k):(kE r).length<=k:=by have:=zr5 r;omega
def zyG(a b:Pt)(w:Int):(jU a b w).length<=16:=by
 unfold jU
 split
 ·simp
 exact zcd sI
def zsu(a:Pt)(w:Int):(vC a w).length<=16:=by
 unfold vC
 split
 ·simp
 exact zcd (by rw[Xx];decide)
def cap_l(a b:Pt)(w:Int):(zj5 a b w).length<=16:=by
 unfold zj5
 split
 ·simp
 exact zcd sI
def zD2(a:Pt)(w:Int):(zdE a w).length<=16:=by
 unfold zdE
 split
 ·simp
 exact zcd sI
def end_l(a b:Pt)(p:Pen):(y5 a b p).length<=16:=by
 unfold y5
 split
 ·exact cap_l ..
 split
 ·exact zsu ..
 simp
def dot_l(a:Pt)(p:Pen):(zbd a p).length<=16:=by
 unfold zbd
 split
 ·exact zD2 ..
 split
 ·exact zsu ..
 simp
def zeF{k:Nat}(h:r.length<=k)(hq:q∈kM r):q.length<=k:=by rw[zvo hq];exact h
def zD3{v:Pt}{p:Pen}:∀r∈qY a v b p,r.length<=16:=by
 intro r hr;unfold qY at hr
 split at hr
 ·cases hr
 split at hr
 ·exact zeF (zsu ..) hr
 split at hr
 ·cases hr
 refine zeF (zcd ?_) hr
 split <;> simp
def zD4{p:Pl}{pen:Pen}:∀r∈ku p pen,r.length<=16:=by
 intro r hr;unfold ku at hr
 rcases Xs.1 hr with hr|hr
 ·rcases Xs.1 hr with hr|hr
  ·rw[vR]at hr
   rcases Xs.1 hr with hr|hr
   ·unfold zdV at hr;obtain⟨i,_,hr⟩:=QF.1 hr;exact zeF (zyG ..) hr
   split at hr
   ·exact zeF (zyG ..) hr
   cases hr
  rw[zcc]at hr
  split at hr
  ·cases hr
  unfold yd at hr;obtain⟨i,_,hr⟩:=QF.1 hr;unfold zfd at hr
  split at hr
  ·cases hr
  exact zD3 r hr
 unfold zdJ at hr
 split at hr
 ·exact zeF (dot_l ..) hr
 split at hr
 ·rcases Xs.1 hr with hr|hr <;> exact zeF (end_l ..) hr
 cases hr
def zgQ(r:LU)(rs:LQ):qa (r::rs)=r.length+qa rs:=by unfold qa;simp
def zA5(a b:LQ):qa (a++b)=qa a+qa b:=by unfold qa;simp
def zt7{k:Nat}:∀{rs:LQ},(∀r∈rs,r.length<=k)->qa rs<=k*rs.length
 |[],_=>Xh _
 |r::rs,h=>by
  have h1:=h r (.head _);have h2:=zt7 λq hq=>h q (.tail _ hq)
  rw[zgQ,Xn,YA];omega
def jq(p:Pl):(zt p).pts.length<=p.pts.length:=by
 have h:=zhO p.pts;unfold zt;dsimp only
 split
 ·unfold qf
  split
  ·rw[QT];omega
  exact h
 exact h
def zhT{p:Pl}{pen:Pen}(hp:p.pts.length<=4096):qa (ku (zt p) pen)<=200000/\(ku (zt p) pen).length<=10000:=by
 have h1:=zt7 (zD4 (p:=zt p) (pen:=pen));have h2:=zsr (zt p) pen;have h3:=jq p;omega
def rgE(c:LQ×Int):SV:=.tup [.sl zk c.1,i64 c.2]
def qG{c:LQ×Int}{e:Int}(h:c=([],e)):LE (.tup [nS,i64 e]) (rgE c):=by
 rw[h];exact zM zC .refl
def zsv(p:Pl)(pen:Pen)(hp:p.pts.length<=4096):CX 254 [ws p,wr pen] (rgE (kz p pen)):=by
 refine zc func254 ?_
 have es:kz p pen=if¬kC pen then([],13) else if¬∀q∈p.pts,zr q then([],6) else if 4096<p.pts.length then([],5)
  else if¬vF (ku (zt p) pen) then([],6) else if 4096<qa (ku (zt p) pen) then([],5) else(ku (zt p) pen,0):=rfl
 refine wg (zep pen)<|⟨λk=>?_,λk=>?_⟩
 ·have k:¬kC pen:=k;exact qG (by rw[es,Xe k])
 have k:kC pen:=Xa.1 k;rw[kH k]at es;refine⟨LU,zk,[p.pts],rfl,wb0 ?_⟩;have c1:qa [p.pts]=p.pts.length:=by rw[zgQ];rfl
 refine wg (zkP [p.pts] oM) ?_;have a1:vF [p.pts]↔∀q∈p.pts,zr q:=⟨λh=>h _ (.head _),λh r hr=>by rw[Xu.1 hr];exact h⟩;refine⟨λk2=>?_,λk2=>?_⟩
 ·have k2:¬∀q∈p.pts,zr q:=λh=>k2 (a1.2 h)
  exact qG (by rw[es,Xe k2])
 have k2:∀q∈p.pts,zr q:=a1.1 (Xa.1 k2);rw[kH k2,Xc (show¬4096<p.pts.length by omega)]at es;intro hl1;refine⟨λk3:(4096:Int)<p.pts.length=>?_,λ_=>?_⟩
 ·omega
 have rc:=zhT (pen:=pen) hp;refine wd<|wg (zgO p hp)<|wg (zA4 (zt p) pen (by have:=jq p;omega))<|wh<|wg (zkP (ku (zt p) pen) oM)<|⟨λk4=>?_,λk4=>?_⟩
 ·have k4:¬vF (ku (zt p) pen):=k4;exact qG (by rw[es,Xe k4])
 have k4:vF (ku (zt p) pen):=Xa.1 k4;rw[kH k4]at es;refine⟨λk5:(4096:Int)<(if vF (ku (zt p) pen) then(qa (ku (zt p) pen):Int) else 0)=>?_,λk5:¬(4096:Int)<(if vF (ku (zt p) pen) then(qa (ku (zt p) pen):Int) else 0)=>?_⟩
 ·rw[Xe k4]at k5;exact qG (by rw[es,Xe oM])
 rw[Xe k4]at k5;rw[Xc (show¬4096<qa (ku (zt p) pen) by omega)]at es;rw[es];exact .refl
def zsw(p:Pl)(pen:Pen)(hp:p.pts.length<=4096):CX 233 [ws p,wr pen] (rgE (kz p pen)):=by
 refine zc func233 ?_
 have es:kz p pen=if¬kC pen then([],13) else if¬∀q∈p.pts,zr q then([],6) else if 4096<p.pts.length then([],5)
  else if¬vF (ku (zt p) pen) then([],6) else if 4096<qa (ku (zt p) pen) then([],5) else(ku (zt p) pen,0):=rfl
 refine wg (zcJ pen)<|⟨λk=>?_,λk=>?_⟩
 ·have k:¬kC pen:=k;exact qG (by rw[es,Xe k])
 have k:kC pen:=Xa.1 k;rw[kH k]at es;refine wg (zqE p.pts)<|⟨λk2=>?_,λk2=>?_⟩
 ·have k2:¬∀q∈p.pts,zr q:=k2;exact qG (by rw[es,Xe k2])
 have k2:∀q∈p.pts,zr q:=Xa.1 k2;rw[kH k2,Xc (show¬4096<p.pts.length by omega)]at es;intro hl1;refine⟨λk3:(4096:Int)<p.pts.length=>?_,λ_=>?_⟩
 ·omega
 have rc:=zhT (pen:=pen) hp;refine wd<|wg (zja p hp)<|wg (zvD (zt p) pen (by have:=jq p;omega))<|wh<|⟨Nat,λi=>⟨[(6,.sl zk (ku (zt p) pen)),(7,i64 i)],[],0,39,0⟩,λi=>i<=(ku (zt p) pen).length/\vF ((ku (zt p) pen).take i),λi=>(ku (zt p) pen).length-i,0,?_,?_,?_⟩
 ·exact⟨Xh _,λr hr=>by cases hr⟩
 ·exact zB []
 rintro i ⟨h1,h2⟩
 intro hl2;refine⟨λg:(i:Int)<(ku (zt p) pen).length=>?_,λg:¬(i:Int)<(ku (zt p) pen).length=>?_⟩
 ·refine wb λx(hx:(ku (zt p) pen)[i]?=some x)=>?_;refine wg (zqE x)<|⟨λk4=>?_,λk4=>?_⟩
  ·have k4:¬vF (ku (zt p) pen):=λh=>k4 (h x (Xf hx))
   exact qG (by rw[es,Xe k4])
  have k4:=Xa.1 k4;exact wa<|⟨i+1,⟨oM,zcK hx h2 k4⟩,zB [],oN⟩
 rw[Xi oM]at h2;rw[kH h2]at es;refine wg (zt5 (ku (zt p) pen) oM)<|⟨λk5=>?_,λk5=>?_⟩
 ·have k5:(4096:Int)<qa (ku (zt p) pen):=k5;exact qG (by rw[es,Xe oM])
 have k5:¬(4096:Int)<qa (ku (zt p) pen):=k5;rw[Xc (show¬4096<qa (ku (zt p) pen) by omega)]at es;rw[es];exact .refl
end Go.Gs
