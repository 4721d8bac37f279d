/- Caps and dots, rings put aside, vertices counted, both texts. -/
import Derived.Test.YtakicgnbhdpknaaGreatDoorPBB
set_option maxRecDepth 100000
set_option maxHeartbeats 8000000
set_option linter.all false
namespace Go.Gs
open Proofs.Tryz
open Go.Proofs
def zE8(a b:Pt)(p:Pen):CX 381 [ws p,wk a,wk b] (.sl ptE (y8 a b p)):=by
 refine zc func381<|Br.mk (λh=>?_) (λh=>?_)
 .have h:p.c=5:=h;exact wg (p_cap a b p.w)<|z6 (by unfold y8;rw[Xe h])
 have h:¬p.c=5:=h;refine⟨λk:p.c=3=>?_,λk:¬p.c=3=>?_⟩
 .exact wg (ztT b p.w)<|z6 (by unfold y8;rw[Xc h,Xe k])
 have e:y8 a b p=[]:=by unfold y8;rw[Xc h,Xc k]
 rw[e];exact zD
def zAS(a:Pt)(p:Pen):CX 377 [wk a,ws p] (.sl ptE (zbB a p)):=by
 refine zc func377<|Br.mk (λh=>?_) (λh=>?_)
 .have h:p.c=5:=h;exact wg (zGj a p.w)<|z6 (by unfold zbB;rw[Xe h])
 have h:¬p.c=5:=h;refine⟨λk:p.c=3=>?_,λk:¬p.c=3=>?_⟩
 .exact wg (ztT a p.w)<|z6 (by unfold zbB;rw[Xc h,Xe k])
 have e:zbB a p=[]:=by unfold zbB;rw[Xc h,Xc k]
 rw[e];exact zD
def zAT(a b:Pt)(p:Pen):CX 354 [wk a,wk b,ws p] (.sl ptE (y8 a b p)):=by
 refine zc func354<|Br.mk (λh=>?_) (λh=>?_)
 .have h:p.c=5:=h;exact wg (r_cap a b p.w)<|z6 (by unfold y8;rw[Xe h])
 have h:¬p.c=5:=h;refine⟨λk:p.c=3=>?_,λk:¬p.c=3=>?_⟩
 .exact wg (ztS b p.w)<|z6 (by unfold y8;rw[Xc h,Xe k])
 have e:y8 a b p=[]:=by unfold y8;rw[Xc h,Xc k]
 rw[e];exact zD
def zAU(a:Pt)(p:Pen):CX 353 [wk a,ws p] (.sl ptE (zbB a p)):=by
 refine zc func353<|Br.mk (λh=>?_) (λh=>?_)
 .have h:p.c=5:=h;exact wg (zGk a p.w)<|z6 (by unfold zbB;rw[Xe h])
 have h:¬p.c=5:=h;refine⟨λk:p.c=3=>?_,λk:¬p.c=3=>?_⟩
 .exact wg (ztS a p.w)<|z6 (by unfold zbB;rw[Xc h,Xe k])
 have e:zbB a p=[]:=by unfold zbB;rw[Xc h,Xc k]
 rw[e];exact zD
def qu{l:LU}{j:Nat}{x:Pt}(h:l[j]?=some x):x=nth l j:=by
 unfold nth;rw[Xr,h];rfl
def zt3(l:LU)(i:Int)(j:Nat)(g:0<l.length/\l.length<=4096)(hi: -1<=i/\i<=l.length)(d:((i+l.length)%l.length).toNat=j):
  CX 378 [i64 i,.ptr [.sl ptE l],.ptr [i64 l.length]] (wk (nth l j)):=by
 refine zc func378 ?_;have e:=Kh (i+l.length) (show(l.length:Int)≠0 by omega);have f:=Kd (i+l.length) (show 0<(l.length:Int) by omega);refine wc<|wa<|Dv.pos ⟨oM,oM⟩<|Ob.mk ⟨e,f⟩ λx c=>?_;have c:l[j]?=some x:=by rw[←d];exact c
 rw[qu c];exact .refl
def uw(out rs:LQ):LQ:=out++rs.filter λr=>decide (0<r.length)
def zr1(out:LQ)(r:LU):uw out [r]=out++kO r:=by
 unfold uw kO
 cases r with
 |nil=>rfl
 |cons a b=>rfl
def zAV(out:LQ)(r s:LU):uw out [r,s]=out++kO r++kO s:=by
 unfold uw kO
 cases r <;> cases s <;> simp
def zfd{out rs:LQ}{i:Nat}{x:LU}(h:rs[i]?=some x):uw out (rs.take (i+1))=if 0<x.length then uw out (rs.take i)++[x] else uw out (rs.take i):=by
 unfold uw;rw[Xm,h]
 by_cases c:0<x.length
 .rw[Xe c];simp[c]
 rw[Xc c];simp[c]
def zhp(out rs:LQ):(uw out rs).length<=out.length+rs.length:=by
 unfold uw;rw[Xq];have:=Qb (λr:List Pt=>decide (0<r.length)) rs;omega
def zr2{out rs:LQ}(h:∀r∈rs,0<r.length):uw out rs=out++rs:=by
 unfold uw;congr 1;exact List.filter_eq_self.2 λr c=>decide_eq_true (h r c)
variable{r:LU}{q:LU}
def zcB(h:q∈kO r):0<q.length:=by
 unfold kO at h
 split at h
 .cases h
 rename_i k;rw[Xu.1 h];exact Kg λe=>k (Xp e)
variable{a:Pt}{b:Pt}
def zpH{v:Pt}{p:Pen}:∀r∈jc a v b p,0<r.length:=by
 intro r c;unfold jc at c
 split at c
 .cases c
 split at c
 .exact zcB c
 split at c
 .cases c
 exact zcB c
def zGD(rs:LQ)(h:rs.length<=4):CG0 376 [.own 1,.loc 0 0] [(0,.box 94 [nS]),(1,.arr 148 zk 1 rs)] (.tup []) [(0,.box 94 [.own 2]),(2,.arr 148 zk 1 (uw [] rs))]:=by
 refine uf tok mix func376 rfl rfl rfl λc=>?_;refine⟨Nat,λi=>⟨[(1,.loc 0 0),(5,.own 1),(6,i64 rs.length),(7,i64 i)],[(0,.box 94 [.own 2]),(2,.arr 148 zk 1 (uw [] (rs.take i))),(1,.arr 148 zk 1 rs)],3,19,2⟩,λi=>i<=rs.length,λi=>rs.length-i,0,?_,?_,?_⟩
 .exact Xh _
 .exact zC [(0,some 0),(1,some 1),(2,none)]
 rintro i hi
 have pl:=zhp ([]:LQ) (rs.take i);rw[Xo]at pl;refine⟨λg:(i:Int)<rs.length=>?_,λg:¬(i:Int)<rs.length=>?_⟩
 .refine wb<|wb λx(f:rs[i]?=some x)=>?_;have e:=zfd (out:=([]:LQ)) f;intro d;refine⟨λk:(0:Int)<x.length=>?_,λk:¬(0:Int)<x.length=>?_⟩
  .rw[Xe oM]at e;refine⟨LU,zk,[x],rfl,wb0 ?_⟩;refine⟨[x],rfl,Ob.mk ⟨(by show _*(24:Int)<=_;simp only[Xn,Xs]at pl ⊢;omega),(by simp only[Xn,Xs]at pl ⊢;omega),dC,λ_ _=>rfl⟩ ?_⟩;exact wa<|⟨i+1,oM,zt [0,1,4] ⟨rfl,aR e.symm,rfl,tV⟩,oN⟩
  rw[Xc oM]at e;exact wa<|⟨i+1,oM,zt [0,1,2] ⟨rfl,aR e.symm,rfl,tV⟩,oN⟩
 exact⟨⟨[],[(0,.box 94 [.own 2]),(2,.arr 148 zk 1 (uw [] rs))],3,19,2⟩,zt [0,1,2] ⟨rfl,Xg (λq=>some (Mem.arr 148 zk 1 (uw [] q))) (Xi oM),tV⟩,rfl,.refl⟩
def zAW(out rs:LQ)(h:out.length<=100000)(j:rs.length<=4):CG0 376 [.own 2,.loc 0 0] [(0,.box 94 [.own 1]),(1,.arr 148 zk 1 out),(2,.arr 148 zk 1 rs)] (.tup []) [(0,.box 94 [.own 3]),(3,.arr 148 zk 1 (uw out rs))]:=by
 refine uf tok mix func376 rfl rfl rfl λc=>?_;refine⟨Nat,λi=>⟨[(1,.loc 0 0),(5,.own 2),(6,i64 rs.length),(7,i64 i)],[(0,.box 94 [.own 3]),(3,.arr 148 zk 1 (uw out (rs.take i))),(2,.arr 148 zk 1 rs)],4,19,3⟩,λi=>i<=rs.length,λi=>rs.length-i,0,?_,?_,?_⟩
 .exact Xh _
 .exact zt [0,1,2,1] ⟨rfl,aR (XC out).symm,rfl,tV⟩
 rintro i hi
 have pl:=zhp out (rs.take i);rw[Xo]at pl;refine⟨λg:(i:Int)<rs.length=>?_,λg:¬(i:Int)<rs.length=>?_⟩
 .refine wb<|wb λx(f:rs[i]?=some x)=>?_;have e:=zfd (out:=out) f;intro d;refine⟨λk:(0:Int)<x.length=>?_,λk:¬(0:Int)<x.length=>?_⟩
  .rw[Xe oM]at e;refine⟨LU,zk,[x],rfl,wb0 ?_⟩;refine⟨[x],rfl,Ob.mk ⟨(by show _*(24:Int)<=_;simp only[Xn,Xs]at pl ⊢;omega),(by simp only[Xn,Xs]at pl ⊢;omega),dC,λ_ _=>rfl⟩ ?_⟩;exact wa<|⟨i+1,oM,zt [0,1,2,5] ⟨rfl,aR e.symm,rfl,tV⟩,oN⟩
  rw[Xc oM]at e;exact wa<|⟨i+1,oM,zt [0,1,2,3] ⟨rfl,aR e.symm,rfl,tV⟩,oN⟩
 exact⟨⟨[],[(0,.box 94 [.own 3]),(3,.arr 148 zk 1 (uw out rs))],4,19,3⟩,zt [0,1,2,3] ⟨rfl,Xg (λq=>some (Mem.arr 148 zk 1 (uw out q))) (Xi oM),tV⟩,rfl,.refl⟩
def zGE(out rs:LQ)(h:out.length<=100000)(j:rs.length<=4):CG0 376 [.sl zk rs,.loc 0 0] [(0,.box 94 [.own 1]),(1,.arr 148 zk 1 out)] (.tup []) [(0,.box 94 [.own 2]),(2,.arr 148 zk 1 (uw out rs))]:=by
 refine uf tok mix func376 rfl rfl rfl λc=>?_;refine⟨Nat,λi=>⟨[(1,.loc 0 0),(5,.sl zk rs),(6,i64 rs.length),(7,i64 i)],[(0,.box 94 [.own 2]),(2,.arr 148 zk 1 (uw out (rs.take i)))],3,19,2⟩,λi=>i<=rs.length,λi=>rs.length-i,0,?_,?_,?_⟩
 .exact Xh _
 .exact zt [0,1,1] ⟨rfl,aR (XC out).symm,tV⟩
 rintro i hi
 have pl:=zhp out (rs.take i);rw[Xo]at pl;refine⟨λg:(i:Int)<rs.length=>?_,λg:¬(i:Int)<rs.length=>?_⟩
 .refine wb λx(f:rs[i]?=some x)=>?_;have e:=zfd (out:=out) f;intro d;refine⟨λk:(0:Int)<x.length=>?_,λk:¬(0:Int)<x.length=>?_⟩
  .rw[Xe oM]at e;refine⟨LU,zk,[x],rfl,wb0 ?_⟩;refine⟨[x],rfl,Ob.mk ⟨(by show _*(24:Int)<=_;simp only[Xn,Xs]at pl ⊢;omega),(by simp only[Xn,Xs]at pl ⊢;omega),dC,λ_ _=>rfl⟩ ?_⟩;exact wa<|⟨i+1,oM,zt [0,1,4] ⟨rfl,aR e.symm,tV⟩,oN⟩
  rw[Xc oM]at e;exact wa<|⟨i+1,oM,zt [0,1,2] ⟨rfl,aR e.symm,tV⟩,oN⟩
 exact⟨⟨[],[(0,.box 94 [.own 2]),(2,.arr 148 zk 1 (uw out rs))],3,19,2⟩,zt [0,1,2] ⟨rfl,Xg (λq=>some (Mem.arr 148 zk 1 (uw out q))) (Xi oM),tV⟩,rfl,.refl⟩
def ziE(out:LQ)(r:LU)(d:out.length<=100000):CG0 352 [.own 0,.sl ptE r] [(0,.arr 148 zk 1 out)] (.own 1) [(1,.arr 148 zk 1 (out++kO r))]:=by
 refine uf tok mix func352 rfl rfl rfl λc=>?_;refine⟨λk:(r.length:Int)=0=>?_,λk:¬(r.length:Int)=0=>?_⟩
 .have e:out++kO r=out:=by rw[Xp (show r.length=0 by omega)];unfold kO;rw[Xe rfl,XC]
  rw[e];exact⟨⟨[(4,.own 1)],[(1,.arr 148 zk 1 out)],2,13,1⟩,zf [0,0],rfl,.refl⟩
 have e:out++kO r=out++[r]:=by unfold kO;rw[Xc (λh=>k (by rw[h];rfl))]
 rw[e];refine⟨LU,zk,[r],rfl,wb0 ?_⟩;refine⟨[r],rfl,wb14 ?_⟩;exact⟨⟨[(4,.own 1)],[(1,.arr 148 zk 1 (out++[r]))],2,13,1⟩,zf [0,2],rfl,.refl⟩
def zDu(p:Pt):CX 321 [wk p] (pr (¬zm p)):=by
 exact zc func321<|wg (qa p)<|zB Qj
def zAX(F:FuncId)(hF:∀p,CX F [wk p] (pr (¬zm p)))(xs:LU):CX 239 [.sl ptE xs,.fn F []] (i64 (zjp xs)):=by
 refine zc func239 λm=>?_;refine⟨Int,λi=>⟨[(8,i64 i),(7,i64 xs.length),(0,.sl ptE xs),(1,.fn F [])],[],0,19,0⟩,λi=>0<=i/\i<=xs.length/\∀(j:Nat) q,(j:Int)<i->xs[j]?=some q->zm q,λi=>((xs.length:Int)-i).toNat,0,?_,?_,?_⟩
 .exact⟨oM,oM,λj q c=>by omega⟩
 .exact zC []
 rintro i ⟨o,s,d⟩
 refine⟨λk=>?_,λk=>?_⟩
 .refine wb λx h=>wg (hF x)<|⟨λf=>?_,λf=>?_⟩
  .refine ze ?_;rw[zrs (i:=i.toNat) (λj q c=>d j q oM) h f];omega
  refine wa<|⟨i+1,⟨oM,oM,λj q c g=>?_⟩,zC [],oN⟩
  by_cases e:j=i.toNat
  .subst e;rw[h]at g;cases g;exact Xa.1 f
  exact d j q oM g
 refine ze (zf7 λp n=>?_).symm;obtain⟨j,c,l⟩:=Ks n;exact d j p oM (by rw[←l];exact Xb c)
def zr3(F:FuncId)(hF:∀p,CX F [wk p] (pr (¬zm p)))(xs:LU):CX 164 [.sl ptE xs,.fn F []] (pr (¬∀p∈xs,zm p)):=by
 exact zc func164<|wg (zAX F hF xs)<|zB zg9
def vY(rs:LQ):Prop:=∀r∈rs,∀p∈r,zm p
instance (rs:LQ):Decidable (vY rs):=inferInstanceAs (Decidable (∀_∈_,_))
def ptsE(rs:LQ):SV:=.tup [i64 (if vY rs then(qe rs:Int) else 0),pr (vY rs)]
def zlN(rs:LQ)(o:(qe rs:Int)<=4611686018427387904):CX 255 [.sl zk rs] (ptsE rs):=by
 refine zc func255 λf=>?_;refine⟨Nat,λi=>⟨[(4,i64 (qe (rs.take i):Int)),(7,.sl zk rs),(8,i64 rs.length),(9,i64 i)],[],0,21,0⟩,λi=>i<=rs.length/\vY (rs.take i),λi=>rs.length-i,0,?_,?_,?_⟩
 .exact⟨Xh _,λr l=>by cases l⟩
 .exact zC []
 rintro i ⟨n,c⟩
 refine⟨λg:(i:Int)<rs.length=>?_,λg:¬(i:Int)<rs.length=>?_⟩
 .refine wb λx(d:rs[i]?=some x)=>?_;refine wg (zr3 321 zDu x)<|⟨λk=>?_,λk=>?_⟩
  .have k:¬vY rs:=λh=>k (h x (Xf d))
   refine zO (ze (by rw[Xc k])) (zd k)
  have k:∀p∈x,zm p:=Xa.1 k;intro j;have c1:=vi d;have m:=zas rs (i+1);(iterate 2 refine wa ?_);refine⟨i+1,⟨oM,zda d c k⟩,jo [] ⟨iR oM,rfl,rfl,rfl,tV⟩ trivial,oN⟩
 rw[Xi oM]at c;have e:qe (rs.take i)=qe rs:=by rw[Xi oM]
 exact zO (ze (by rw[Xe c,e])) (zH c)
def zr4(l:LU):CX 295 [.sl ptE l] (pr (∀p∈l,zm p)):=by
 refine zc func295<|⟨Nat,λi=>⟨[(0,.sl ptE l),(3,i64 i)],[],0,16,0⟩,λi=>i<=l.length/\∀p∈l.take i,zm p,λi=>l.length-i,0,?_,?_,?_⟩
 .exact⟨Xh _,λp c=>by cases c⟩
 .exact zC []
 rintro i ⟨h,d⟩
 intro f;refine⟨λg:(i:Int)<l.length=>?_,λg:¬(i:Int)<l.length=>?_⟩
 .refine wb λx(e:l[i]?=some x)=>?_;refine wg (ki x)<|⟨λb=>zd λk=>b (k x (Xf e)),λb=>?_⟩;have b:=Xa.1 b;refine wa<|⟨i+1,⟨oM,λp c=>?_⟩,zC [],oN⟩;rw[Xm,e]at c
  rcases Xt.1 c with c|c
  .exact d p c
  simp at c;rw[c];exact b
 rw[Xi oM]at d;exact zH d
def zvH(rs:LQ)(j:(qe rs:Int)<=4611686018427387904):CX 234 [.sl zk rs] (i64 (qe rs:Int)):=by
 refine zc func234<|⟨Nat,λi=>⟨[(0,.sl zk rs),(3,i64 (qe (rs.take i):Int)),(4,i64 i)],[],0,19,0⟩,λi=>i<=rs.length,λi=>rs.length-i,0,?_,?_,?_⟩
 .exact Xh _
 .exact zC []
 rintro i h
 intro c;refine⟨λg:(i:Int)<rs.length=>?_,λg:¬(i:Int)<rs.length=>?_⟩
 .refine wb λx(e:rs[i]?=some x)=>?_;intro d;have c1:=vi e;have f:=zas rs (i+1);(iterate 2 refine wa ?_);refine⟨i+1,oM,jo [] ⟨rfl,iR oM,rfl,tV⟩ trivial,oN⟩
 exact ze (by rw[Xi oM])
def vH(r:LU):(kO r).length<=1:=by unfold kO;split <;> simp
def zer(l:LU)(w:Int)(n:Nat):LQ:=(List.range n).flatMap λi=>kO (jX (nth l i) (nth l (i+1)) w)
def ziF(l:LU)(w:Int)(n:Nat):zer l w (n+1)=zer l w n++kO (jX (nth l n) (nth l (n+1)) w):=by
 unfold zer;rw[KC,Qy,Jr]
def zr5(l:LU)(w:Int)(n:Nat):(zer l w n).length<=n:=by
 induction n with
 |zero=>exact Xj 0
 |succ n c=>
  rw[ziF,Xq];have:=vH (jX (nth l n) (nth l (n+1)) w);omega
def zai(p:Pl)(pen:Pen):kY p pen=zer p.pts pen.w (p.pts.length-1)++
  (if p.cl=true/\1<p.pts.length then kO (jX (nth p.pts (p.pts.length-1)) (nth p.pts 0) pen.w) else[]):=rfl
def zgi(p:Pl)(pen:Pen):(kY p pen).length<=p.pts.length+1:=by
 rw[zai,Xq];have c:=zr5 p.pts pen.w (p.pts.length-1);have d:=vH (jX (nth p.pts (p.pts.length-1)) (nth p.pts 0) pen.w)
 split
 .omega
 rw[Xs];omega
def zAY(p:Pl)(pen:Pen)(l:p.pts.length<=4096):CG0 350 [wv p,ws pen] [] (.own 0) [(0,.arr 148 zk 1 (kY p pen))]:=by
 refine qA tok mix func350 rfl rfl rfl<|⟨LU,zk,[],rfl,wb2 ?_⟩;intro j;refine⟨Nat,λi=>⟨[(2,.loc 0 0),(3,.loc 1 0),(5,.own 2),(6,i64 p.pts.length),(7,i64 i)],[(0,.box 193 [.sl ptE p.pts,pr (p.cl=true)]),(1,.box 61 (jg pen)),(2,.arr 148 zk 1 (zer p.pts pen.w i))],3,56,0⟩,λi=>i<=p.pts.length-1,λi=>p.pts.length-i,0,?_,?_,?_⟩
 .exact Xh _
 .exact zf [0,1,2]
 rintro i hi
 have bl:=zr5 p.pts pen.w i;refine wa<|Br.mk (λg=>?_) (λg=>?_)
 .have g:(i:Int)+1<p.pts.length:=g;refine wd<|wb λx d=>?_;have d:=qu (show p.pts[i]?=some x from d);refine wa<|wb λy e=>?_;have e:=qu (show p.pts[i+1]?=some y from e);refine wg (zAg x y pen.w) ?_
  refine zb.give [2] 1 [.own 0,.sl ptE (jX x y pen.w)] [(0,.arr 148 zk 1 (zer p.pts pen.w i))] [(1,.arr 148 zk 1 (zer p.pts pen.w i++kO (jX x y pen.w)))] (.own 1) (ziE (zer p.pts pen.w i) (jX x y pen.w) oM)
   LEs.refl rfl rfl rfl ⟨⟨_,rfl,rfl,tV⟩,tV⟩ rfl ⟨⟨rfl,tV⟩,tV⟩ ?_
  refine wh<|wa ?_;refine⟨i+1,oM,zt [0,1,3] ⟨rfl,rfl,aR (by rw[ziF,←d,←e]),tV⟩,oN⟩
 have g:¬(i:Int)+1<p.pts.length:=g;have ei:i=p.pts.length-1:=oM
 have no:¬(p.cl=true/\1<p.pts.length)->∃k,zbn k (.own 2) (.own 0)/\zyX [(0,.box 193 [.sl ptE p.pts,pr (p.cl=true)]),(1,.box 61 (jg pen)),(2,.arr 148 zk 1 (zer p.pts pen.w i))] k (.arr 148 zk 1 (kY p pen)):=λh=>by
  refine⟨some 2,.own _ rfl,aR ?_,λ_ _=>rfl⟩;rw[zai,Xc h,ei,XC]
 refine⟨λc=>?_,λc=>no λh=>c h.1⟩;refine⟨λf=>?_,λf=>no λh=>f (show(1:Int)<p.pts.length by have:=h.2;omega)⟩
 have c:p.cl=true:=c;have f:(1:Int)<p.pts.length:=f;refine wd<|wa<|wb λx d=>?_;have d:=qu (show p.pts[((p.pts.length:Int)-1).toNat]?=some x from d);refine wb λy e=>?_;have e:=qu (show p.pts[0]?=some y from e);refine wg (zAg x y pen.w) ?_
 refine zb.give [2] 1 [.own 0,.sl ptE (jX x y pen.w)] [(0,.arr 148 zk 1 (zer p.pts pen.w i))] [(1,.arr 148 zk 1 (zer p.pts pen.w i++kO (jX x y pen.w)))] (.own 1) (ziE (zer p.pts pen.w i) (jX x y pen.w) oM)
  LEs.refl rfl rfl rfl ⟨⟨_,rfl,rfl,tV⟩,tV⟩ rfl ⟨⟨rfl,tV⟩,tV⟩ ?_
 refine wh<|⟨some 3,.own _ rfl,aR ?_,λ_ _=>rfl⟩;rw[zai,Xe ⟨c,oM⟩,ei,d,e,show((p.pts.length:Int)-1).toNat=p.pts.length-1 by omega]
def zfL(p:Pl)(pen:Pen)(i:Nat):LQ:=if¬p.cl=true/\(i=0∨i=p.pts.length-1) then[]
  else jc (nth p.pts ((i+p.pts.length-1)%p.pts.length)) (nth p.pts i) (nth p.pts ((i+1)%p.pts.length)) pen
def yh(p:Pl)(pen:Pen)(n:Nat):LQ:=(List.range n).flatMap (zfL p pen)
def zgj(p:Pl)(pen:Pen)(n:Nat):yh p pen (n+1)=yh p pen n++zfL p pen n:=by
 unfold yh;rw[KC,Qy,Jr]
def zcC(p:Pl)(pen:Pen):jh p pen=if p.pts.length<=1 then[] else yh p pen p.pts.length:=rfl
def ziG(a v b:Pt)(p:Pen):(jc a v b p).length<=1:=by
 unfold jc
 split
 .decide
 split
 .exact vH _
 split
 .decide
 exact vH _
def zxD(p:Pl)(pen:Pen)(i:Nat):(zfL p pen i).length<=1:=by
 unfold zfL
 split
 .decide
 exact ziG ..
def ziH(p:Pl)(pen:Pen)(n:Nat):(yh p pen n).length<=n:=by
 induction n with
 |zero=>exact Xj 0
 |succ n c=>
  rw[zgj,Xq];have:=zxD p pen n;omega
def znW(p:Pl)(pen:Pen):(jh p pen).length<=p.pts.length:=by
 rw[zcC]
 split
 .exact Xh _
 exact ziH ..
def zxE{out rs:LQ}{i:Nat}{x:LU}(h:rs[i]?=some x):uw out (rs.take (i+1))=uw out (rs.take i)++kO x:=by
 rw[zfd h];unfold kO
 cases x with
 |nil=>simp
 |cons a b=>simp
def zDv(p:Pl)(pen:Pen)(J:p.pts.length<=4096):CX 351 [wv p,ws pen] (.sl zk (jh p pen)):=by
 refine zc func351<|⟨LU,zk,[],rfl,wb2 ?_⟩;intro v;refine⟨Nat,λi=>⟨[(2,.loc 0 0),(3,.loc 1 0),(5,.own 2),(6,i64 p.pts.length),(7,i64 i)],[(0,.box 193 [.sl ptE p.pts,pr (p.cl=true)]),(1,.box 61 (jg pen)),(2,.arr 148 zk 1 (yh p pen i))],3,74,0⟩,λi=>i<=p.pts.length/\(p.pts.length<=1->i=0),λi=>p.pts.length-i,0,?_,?_,?_⟩
 .exact⟨Xh _,λ_=>rfl⟩
 .exact zf [0,1,2]
 rintro i ⟨hi,u⟩
 have bl:=ziH p pen i;have e:=zgj p pen i
 have over:(p.pts.length<=i∨p.pts.length<=1)->LE (.sl zk (yh p pen i)) (.sl zk (jh p pen)):=λh=>by
  refine z6 ?_;rw[zcC]
  split
  .rename_i k;rw[u k];rfl
  rw[show i=p.pts.length by omega]
 refine⟨λg=>?_,λg=>over (.inl (by have g:¬(i:Int)<p.pts.length:=g;omega))⟩;have g:(i:Int)<p.pts.length:=g;refine⟨λf=>?_,λf=>over (.inr (by have f:¬(1:Int)<p.pts.length:=f;omega))⟩;have f:(1:Int)<p.pts.length:=f
 have skip:¬p.cl=true->i=0∨i=p.pts.length-1->yh p pen i=yh p pen (i+1):=λh k=>by
  rw[e,show zfL p pen i=[] from Xe ⟨h,k⟩,XC]
 refine⟨λc=>Br.mk (λc1=>?A) (λc1=>Ar.fit oM (Br.mk (λd=>?B) (λd=>?C))),λc=>?D⟩
 case A=>
  have c1:(i:Int)=0:=c1;exact wa<|⟨i+1,⟨oM,λ_=>by omega⟩,zt [0,1,2] ⟨rfl,rfl,aR (skip c (.inl oM)),tV⟩,oN⟩
 case B=>
  have d:(i:Int)=p.pts.length-1:=d;exact wa<|⟨i+1,⟨oM,λ_=>by omega⟩,zt [0,1,2] ⟨rfl,rfl,aR (skip c (.inr oM)),tV⟩,oN⟩
 case' C=>
  have c1:¬(i:Int)=0:=c1;have d:¬(i:Int)=p.pts.length-1:=d;replace c:¬(¬p.cl=true/\(i=0∨i=p.pts.length-1)):=λh=>oM
 case' D=>replace c:¬(¬p.cl=true/\(i=0∨i=p.pts.length-1)):=λh=>c h.1
 all_goals
  have E:=Kh ((i:Int)+p.pts.length-1) (show(p.pts.length:Int)≠0 by omega);have F:=Kd ((i:Int)+p.pts.length-1) (show 0<(p.pts.length:Int) by omega);have G:=Kh ((i:Int)+1) (show(p.pts.length:Int)≠0 by omega);have H:=Kd ((i:Int)+1) (show 0<(p.pts.length:Int) by omega)
  have s:(((i:Int)+p.pts.length-1)%p.pts.length).toNat=(i+p.pts.length-1)%p.pts.length:=by
   rw[show(i:Int)+p.pts.length-1=((i+p.pts.length-1:Nat):Int) by omega];omega
  have t:(((i:Int)+1)%p.pts.length).toNat=(i+1)%p.pts.length:=by
   rw[show(i:Int)+1=((i+1:Nat):Int) by omega];omega
  refine wd ?_;(iterate 2 refine wa ?_);refine Dv.pos ⟨oM,oM⟩<|Ob.mk ⟨E,F⟩ λx l=>?_;have l:=qu (show p.pts[(((i:Int)+p.pts.length-1)%p.pts.length).toNat]?=some x from l);rw[s]at l;refine wb λy o=>?_;have o:=qu (show p.pts[i]?=some y from o);refine wa<|Dv.pos ⟨oM,oM⟩<|Ob.mk ⟨G,H⟩ λz m=>?_;have m:=qu (show p.pts[(((i:Int)+1)%p.pts.length).toNat]?=some z from m);rw[t]at m;refine wg (zGt x y z pen)<|wh ?_;have jl:=ziG x y z pen
  refine⟨Nat,λj=>⟨[(2,.loc 0 0),(3,.loc 1 0),(5,.own 2),(6,i64 p.pts.length),(7,i64 i),(8,.sl zk (jc x y z pen)),(9,i64 j)],[(0,.box 193 [.sl ptE p.pts,pr (p.cl=true)]),(1,.box 61 (jg pen)),(2,.arr 148 zk 1 (uw (yh p pen i) ((jc x y z pen).take j)))],3,74,0⟩,λj=>j<=(jc x y z pen).length,λj=>(jc x y z pen).length-j,0,?_,?_,?_⟩
  .exact Xh _
  .exact zt [0,1,2] ⟨rfl,rfl,aR (XC (yh p pen i)).symm,tV⟩
  rintro j I
  have pl:=zhp (yh p pen i) ((jc x y z pen).take j);rw[Xo]at pl;intro w;refine⟨λk:(j:Int)<(jc x y z pen).length=>?_,λk:¬(j:Int)<(jc x y z pen).length=>?_⟩
  .refine wb λr n=>?_;have n:=zxE (out:=yh p pen i) (show(jc x y z pen)[j]?=some r from n)
   refine zb.give [2] 1 [.own 0,.sl ptE r] [(0,.arr 148 zk 1 (uw (yh p pen i) ((jc x y z pen).take j)))] [(1,.arr 148 zk 1 (uw (yh p pen i) ((jc x y z pen).take j)++kO r))] (.own 1) (ziE (uw (yh p pen i) ((jc x y z pen).take j)) r oM)
    LEs.refl rfl rfl rfl ⟨⟨_,rfl,rfl,tV⟩,tV⟩ rfl ⟨⟨rfl,tV⟩,tV⟩ ?_
   refine wa ?_;refine⟨j+1,oM,zt [0,1,3] ⟨rfl,rfl,aR n.symm,tV⟩,oN⟩
  refine wa<|⟨i+1,⟨oM,λ_=>by omega⟩,zt [0,1,2] ⟨rfl,rfl,aR ?_,tV⟩,oN⟩;rw[Xi oM,zr2 zpH,e,show zfL p pen i=jc x y z pen by rw[l,o,m];exact Xc c]
variable{p:Pl}{pen:Pen}
def zr6(h:p.pts.length=1):zek p pen=kO (zbB (nth p.pts 0) pen):=by unfold zek;rw[Xe h]
def zr7(h:1<p.pts.length)(k:¬p.cl=true):zek p pen=kO (y8 (nth p.pts 1) (nth p.pts 0) pen)++kO (y8 (nth p.pts (p.pts.length-2)) (nth p.pts (p.pts.length-1)) pen):=by
 unfold zek;rw[Xc (show¬p.pts.length=1 by omega),Xe ⟨h,k⟩]
def zpI(h:¬p.pts.length=1)(k:¬(1<p.pts.length/\¬p.cl=true)):zek p pen=[]:=by
 unfold zek;rw[Xc h,Xc k]
def zAZ(p:Pl)(pen:Pen):(zek p pen).length<=2:=by
 unfold zek
 split
 .have:=vH (zbB (nth p.pts 0) pen);omega
 split
 .have c:=vH (y8 (nth p.pts 1) (nth p.pts 0) pen);have d:=vH (y8 (nth p.pts (p.pts.length-2)) (nth p.pts (p.pts.length-1)) pen);rw[Xq];omega
 decide
def zt4(p:Pl)(pen:Pen):(kv p pen).length<=2*p.pts.length+3:=by
 unfold kv;rw[Xq,Xq];have c:=zgi p pen;have d:=znW p pen;have e:=zAZ p pen;omega
def znX(h:¬1<p.pts.length):kY p pen=zer p.pts pen.w (p.pts.length-1):=by
 rw[zai,Xc (λk=>h k.2),XC]
def zr8(h:p.pts.length<=1):jh p pen=[]:=by rw[zcC,Xe h]
def zt5(h:p.pts.length=0):kv p pen=[]:=by
 unfold kv;rw[znX oM,zr8 oM,zpI oM oM,h];rfl
def zt6(h:p.pts.length=1):kv p pen=kO (zbB (nth p.pts 0) pen):=by
 unfold kv;rw[znX oM,zr8 oM,zr6 h,h];rfl
def zxF(p:Pl)(pen:Pen)(n:p.pts.length<=4096):CX 296 [wv p,ws pen] (.sl zk (kv p pen)):=by
 refine zc func296<|zb.fresh _ _ (zAY p pen n) rfl (λ_ _=>rfl) (.inl rfl)<|wg (zDv p pen n) ?_;have lb:=zgi p pen;have lj:=znW p pen;refine⟨Nat,λi=>⟨[(2,.loc 0 0),(3,.loc 1 0),(5,.own 2),(6,.sl zk (jh p pen)),(7,i64 i)],[(0,.box 193 [.sl ptE p.pts,pr (p.cl=true)]),(1,.box 61 (jg pen)),(2,.arr 148 zk 1 (kY p pen++(jh p pen).take i))],3,77,0⟩,λi=>i<=(jh p pen).length,λi=>(jh p pen).length-i,0,?_,?_,?_⟩
 .exact Xh _
 .exact zt [0,1,2] ⟨rfl,rfl,aR (XC (kY p pen)).symm,tV⟩
 rintro i hi
 intro o;refine⟨λg:(i:Int)<(jh p pen).length=>?_,λg:¬(i:Int)<(jh p pen).length=>?_⟩
 .refine wb λx(d:(jh p pen)[i]?=some x)=>?_;refine⟨LU,zk,[x],rfl,wb0 ?_⟩;refine⟨[x],rfl,wb24 ?_⟩;refine wa ?_;refine⟨i+1,oM,zt [0,1,4] ⟨rfl,rfl,aR (by rw[Xm,d];exact XM ..),tV⟩,oN⟩
 have e:(jh p pen).take i=jh p pen:=Xi oM;have ll:(kY p pen++(jh p pen).take i).length<=100000:=by rw[e,Xq];omega
 intro s;refine⟨λm:(p.pts.length:Int)=1=>?_,λm=>?_⟩
 .refine wd<|wb λx d=>?_;have d:=qu (show p.pts[0]?=some x from d);refine wg (zAU x pen) ?_
  refine zb.give [2] 1 [.own 0,.sl ptE (zbB x pen)] [(0,.arr 148 zk 1 (kY p pen++(jh p pen).take i))] [(1,.arr 148 zk 1 (kY p pen++(jh p pen).take i++kO (zbB x pen)))] (.own 1) (ziE (kY p pen++(jh p pen).take i) (zbB x pen) ll)
   LEs.refl rfl rfl rfl ⟨⟨_,rfl,rfl,tV⟩,tV⟩ rfl ⟨⟨rfl,tV⟩,tV⟩ ?_
  refine wh<|⟨λk=>absurd k oM,λ_=>?_⟩;refine z6 ?_;unfold kv;rw[e,zr6 oM,d]
 have m:¬(p.pts.length:Int)=1:=m
 have no:¬(1<p.pts.length/\¬p.cl=true)->LE (.sl zk (kY p pen++(jh p pen).take i)) (.sl zk (kv p pen)):=λh=>by
  refine z6 ?_;unfold kv;rw[e,zpI oM h,XC]
 refine⟨λk=>?_,λk=>no λh=>by have k:¬(1:Int)<p.pts.length:=k;omega⟩;have k:(1:Int)<p.pts.length:=k;refine⟨λc=>?_,λc=>no λh=>c h.2⟩;have c:¬p.cl=true:=c;refine wd<|wb λx d=>?_;have d:=qu (show p.pts[1]?=some x from d);refine wb λy l=>?_;have l:=qu (show p.pts[0]?=some y from l);refine wg (zAT x y pen) ?_;have t:=vH (y8 x y pen)
 refine zb.give [2] 1 [.own 0,.sl ptE (y8 x y pen)] [(0,.arr 148 zk 1 (kY p pen++(jh p pen).take i))] [(1,.arr 148 zk 1 (kY p pen++(jh p pen).take i++kO (y8 x y pen)))] (.own 1) (ziE (kY p pen++(jh p pen).take i) (y8 x y pen) ll)
  LEs.refl rfl rfl rfl ⟨⟨_,rfl,rfl,tV⟩,tV⟩ rfl ⟨⟨rfl,tV⟩,tV⟩ ?_
 refine wh<|wd<|wa<|wb λu f=>?_;have f:=qu (show p.pts[((p.pts.length:Int)-2).toNat]?=some u from f);rw[show((p.pts.length:Int)-2).toNat=p.pts.length-2 by omega]at f;refine wa<|wb λv j=>?_;have j:=qu (show p.pts[((p.pts.length:Int)-1).toNat]?=some v from j);rw[show((p.pts.length:Int)-1).toNat=p.pts.length-1 by omega]at j;refine wg (zAT u v pen) ?_
 refine zb.give [3] 1 [.own 0,.sl ptE (y8 u v pen)] [(0,.arr 148 zk 1 (kY p pen++(jh p pen).take i++kO (y8 x y pen)))] [(1,.arr 148 zk 1 (kY p pen++(jh p pen).take i++kO (y8 x y pen)++kO (y8 u v pen)))] (.own 1) (ziE (kY p pen++(jh p pen).take i++kO (y8 x y pen)) (y8 u v pen) (by rw[e,Xq,Xq];omega))
  LEs.refl rfl rfl rfl ⟨⟨_,rfl,rfl,tV⟩,tV⟩ rfl ⟨⟨rfl,tV⟩,tV⟩ ?_
 refine wh<|z6 ?_;unfold kv;rw[e,zr7 oM c,d,l,f,j];exact XM ..
def zlO(p:Pl)(pen:Pen)(n:Nat):LQ:=(List.range n).flatMap λi=>kO (jX (nth p.pts i) (nth p.pts ((i+1)%p.pts.length)) pen.w)
def zfe(p:Pl)(pen:Pen)(n:Nat):zlO p pen (n+1)=zlO p pen n++kO (jX (nth p.pts n) (nth p.pts ((n+1)%p.pts.length)) pen.w):=by
 unfold zlO;rw[KC,Qy,Jr]
def zpJ(p:Pl)(pen:Pen):∀n,n<p.pts.length->zlO p pen n=zer p.pts pen.w n
 |0,_=>rfl
 |n+1,h=>by rw[zfe,ziF,zpJ p pen n oM,Xy h]
def zA0(p:Pl)(pen:Pen)(n:Nat):(zlO p pen n).length<=n:=by
 induction n with
 |zero=>exact Xj 0
 |succ n c=>
  rw[zfe,Xq];have:=vH (jX (nth p.pts n) (nth p.pts ((n+1)%p.pts.length)) pen.w);omega
def zes(p:Pl):Nat:=if p.cl=true then p.pts.length else p.pts.length-1
def zr9(h:p.cl=true):zes p=p.pts.length:=Xe h
def zvI(h:¬p.cl=true):zes p=p.pts.length-1:=Xc h
def zDw(p:Pl):zes p<=p.pts.length:=by unfold zes;split <;> omega
def zA1(h:1<p.pts.length):zlO p pen (zes p)=kY p pen:=by
 rw[zai]
 by_cases c:p.cl=true
 .rw[zr9 c,Xe ⟨c,h⟩];obtain⟨m,d⟩:∃m,p.pts.length=m+1:=⟨p.pts.length-1,oM⟩;rw[d,zfe,zpJ p pen m oM,d,JX];rfl
 rw[zvI c,Xc (λh=>c h.1),zpJ p pen _ oM,XC]
def zDx(p:Pl)(pen:Pen)(m:p.pts.length<=4096):CX 320 [wv p,ws pen] (.sl zk (kv p pen)):=by
 refine zc func320 λz=>?_;refine⟨λB:(p.pts.length:Int)=0=>?_,λB:¬(p.pts.length:Int)=0=>?_⟩
 .rw[zt5 oM];exact zD
 refine⟨λE:(p.pts.length:Int)=1=>?_,λE:¬(p.pts.length:Int)=1=>?_⟩
 .refine wd<|wb λx d=>?_;have d:=qu (show p.pts[0]?=some x from d);refine wg (zAS x pen)<|⟨LU,zk,[zbB x pen],rfl,wb0 ?_⟩
  refine zb.give [2,5] 1 [.own 1,.loc 0 0] [(0,.box 94 [nS]),(1,.arr 148 zk 1 [zbB x pen])] [(0,.box 94 [.own 2]),(2,.arr 148 zk 1 (uw [] [zbB x pen]))] (.tup []) (zGD [zbB x pen] sI)
   LEs.refl rfl rfl rfl ⟨⟨_,rfl,rfl,rfl⟩,⟨_,rfl,rfl,tV⟩,tV⟩ rfl ⟨⟨rfl,rfl⟩,⟨rfl,tV⟩,tV⟩ ?_
  refine wh<|z6 ?_;rw[zt6 oM,←d,zr1];rfl
 refine wa ?_;have s:1<p.pts.length:=oM;refine⟨λc=>?C,λc=>?D⟩
 case' C=>
  have c:p.cl=true:=c;have hL:=zr9 c
 case' D=>
  have c:¬p.cl=true:=c;have hL:=zvI c
 all_goals
  have A:=zDw p;refine⟨Nat,λi=>⟨[(2,.loc 0 0),(3,.loc 1 0),(5,.loc 2 0),(6,.fn 376 [.loc 2 0]),(7,.loc 3 0),(8,.loc 4 0),(9,.fn 378 [.loc 3 0,.loc 4 0]),(39,i64 (zes p:Int)),(40,i64 i)],[(0,.box 193 [.sl ptE p.pts,pr (p.cl=true)]),(1,.box 61 (jg pen)),(2,.box 94 [.own 5]),(3,.box 148 [.sl ptE p.pts]),(4,.box 3 [i64 p.pts.length]),(5,.arr 148 zk 1 (zlO p pen i))],6,121,0⟩,λi=>i<=zes p,λi=>zes p-i,0,?_,?_,?_⟩
  .exact Xh _
  .exact jo [(0,some 0),(1,some 1),(2,some 2),(3,some 3),(4,some 4),(5,none)] ⟨rfl,rfl,rfl,rfl,rfl,rfl,rfl,iR oM,rfl,tV⟩ ⟨rfl,rfl,rfl,rfl,rfl,rfl,tV⟩
  rintro i hi
  have bl:=zA0 p pen i;refine⟨λg:(i:Int)<zes p=>?_,λg:¬(i:Int)<zes p=>?_⟩
  .refine wd<|wb λx d=>?_;have d:=qu (show p.pts[i]?=some x from d);refine wa<|wg (zt3 p.pts ((i:Int)+1) ((i+1)%p.pts.length) ⟨oM,m⟩ ⟨oM,oM⟩ (by rw[show(i:Int)+1+p.pts.length=((i+1:Nat):Int)+(p.pts.length:Int) by omega,Int.add_emod_right];omega))<|wg (zGi x (nth p.pts ((i+1)%p.pts.length)) pen.w)<|⟨LU,zk,[jX x (nth p.pts ((i+1)%p.pts.length)) pen.w],rfl,wb0 ?_⟩
   refine zb.give [2,5,6] 1 [.own 2,.loc 0 0] [(0,.box 94 [.own 1]),(1,.arr 148 zk 1 (zlO p pen i)),(2,.arr 148 zk 1 [jX x (nth p.pts ((i+1)%p.pts.length)) pen.w])] [(0,.box 94 [.own 3]),(3,.arr 148 zk 1 (uw (zlO p pen i) [jX x (nth p.pts ((i+1)%p.pts.length)) pen.w]))] (.tup []) (zAW (zlO p pen i) [jX x (nth p.pts ((i+1)%p.pts.length)) pen.w] oM sI)
      LEs.refl rfl rfl rfl ⟨⟨_,rfl,rfl,rfl⟩,⟨_,rfl,rfl,tV⟩,⟨_,rfl,rfl,tV⟩,tV⟩ rfl ⟨⟨rfl,rfl⟩,⟨rfl,tV⟩,tV⟩ ?_
   refine wh<|wa ?_;refine⟨i+1,oM,zt [0,1,2,3,4,7] ⟨rfl,rfl,rfl,rfl,rfl,aR (by rw[zfe,zr1,d]),tV⟩,oN⟩
  have t:zlO p pen i=kY p pen:=by rw[←zA1 s,show i=zes p by omega]
  refine⟨Nat,λi=>⟨[(2,.loc 0 0),(3,.loc 1 0),(5,.loc 2 0),(6,.fn 376 [.loc 2 0]),(7,.loc 3 0),(8,.loc 4 0),(9,.fn 378 [.loc 3 0,.loc 4 0]),(58,i64 p.pts.length),(59,i64 i)],[(0,.box 193 [.sl ptE p.pts,pr (p.cl=true)]),(1,.box 61 (jg pen)),(2,.box 94 [.own 5]),(3,.box 148 [.sl ptE p.pts]),(4,.box 3 [i64 p.pts.length]),(5,.arr 148 zk 1 (kY p pen++yh p pen i))],6,121,0⟩,λi=>i<=p.pts.length,λi=>p.pts.length-i,0,?_,?_,?_⟩
  .exact Xh _
  .exact zt [0,1,2,3,4,5] ⟨rfl,rfl,rfl,rfl,rfl,aR (by rw[t];exact(XC _).symm),tV⟩
  rintro i hi
  have lb:=zgi p pen;have lj:=ziH p pen i;have ll:(kY p pen++yh p pen i).length<=50000:=by rw[Xq];omega
  have ej:=zgj p pen i;refine⟨λg=>?_,λg=>?_⟩;rotate_left
  .have g:¬(i:Int)<p.pts.length:=g;have ei:yh p pen i=jh p pen:=by rw[zcC,Xc oM,show i=p.pts.length by omega]
   refine⟨λo=>?_,λo=>?_⟩;rotate_left
   .refine z6 ?_;unfold kv;rw[ei,zpI oM (λh=>o h.2),XC]
   have o:¬p.cl=true:=o;refine wd<|wb λx d=>?_;have d:=qu (show p.pts[1]?=some x from d);refine wb λy n=>?_;have n:=qu (show p.pts[0]?=some y from n);refine wg (zE8 x y pen)<|wa<|wb λu j=>?_;have j:=qu (show p.pts[((p.pts.length:Int)-2).toNat]?=some u from j);rw[show((p.pts.length:Int)-2).toNat=p.pts.length-2 by omega]at j;refine wa<|wb λv l=>?_;have l:=qu (show p.pts[((p.pts.length:Int)-1).toNat]?=some v from l)
   rw[show((p.pts.length:Int)-1).toNat=p.pts.length-1 by omega]at l;refine wg (zE8 u v pen)<|⟨LU,zk,[y8 x y pen,y8 u v pen],rfl,wb0 ?_⟩
   refine zb.give [2,5,6] 1 [.own 2,.loc 0 0] [(0,.box 94 [.own 1]),(1,.arr 148 zk 1 (kY p pen++yh p pen i)),(2,.arr 148 zk 1 [y8 x y pen,y8 u v pen])] [(0,.box 94 [.own 3]),(3,.arr 148 zk 1 (uw (kY p pen++yh p pen i) [y8 x y pen,y8 u v pen]))] (.tup []) (zAW (kY p pen++yh p pen i) [y8 x y pen,y8 u v pen] oM sI)
      LEs.refl rfl rfl rfl ⟨⟨_,rfl,rfl,rfl⟩,⟨_,rfl,rfl,tV⟩,⟨_,rfl,rfl,tV⟩,tV⟩ rfl ⟨⟨rfl,rfl⟩,⟨rfl,tV⟩,tV⟩ ?_
   refine wh<|z6 ?_;unfold kv;rw[zAV,ei,zr7 s o,d,n,j,l];exact XM ..
  have g:(i:Int)<p.pts.length:=g
  have skip:¬p.cl=true->i=0∨i=p.pts.length-1->kY p pen++yh p pen i=kY p pen++yh p pen (i+1):=λh k=>by
   rw[ej,show zfL p pen i=[] from Xe ⟨h,k⟩,XC]
  refine⟨λk=>?_,λk=>Br.mk (λe=>Ar.fit oM (Br.mk (λf=>?_) (λf=>?_))) (λe=>?_)⟩;rotate_left 2
  .have f:¬(i:Int)<(p.pts.length:Int)-1:=f;exact wa<|⟨i+1,oM,zt [0,1,2,3,4,5] ⟨rfl,rfl,rfl,rfl,rfl,aR (skip k (.inr oM)),tV⟩,oN⟩
  .have e:¬(0:Int)<(i:Int):=e;exact wa<|⟨i+1,oM,zt [0,1,2,3,4,5] ⟨rfl,rfl,rfl,rfl,rfl,aR (skip k (.inl oM)),tV⟩,oN⟩
  all_goals
   have kk:¬(¬p.cl=true/\(i=0∨i=p.pts.length-1)):=by
    first
    |exact λh=>h.1 k
    |exact λh=>absurd h.2 (by have e:(0:Int)<(i:Int):=e;have f:(i:Int)<(p.pts.length:Int)-1:=f;omega)
   refine wd<|wa<|wg (zt3 p.pts ((i:Int)-1) ((i+p.pts.length-1)%p.pts.length) ⟨oM,m⟩ ⟨oM,oM⟩ (by rw[show(i:Int)-1+p.pts.length=((i+p.pts.length-1:Nat):Int) by omega];omega))<|wb λx d=>?_;have d:=qu (show p.pts[i]?=some x from d);refine wa<|wg (zt3 p.pts ((i:Int)+1) ((i+1)%p.pts.length) ⟨oM,m⟩ ⟨oM,oM⟩ (by rw[show(i:Int)+1+p.pts.length=((i+1:Nat):Int)+(p.pts.length:Int) by omega,Int.add_emod_right];omega)) ?_
   refine wg (zGs (nth p.pts ((i+p.pts.length-1)%p.pts.length)) x (nth p.pts ((i+1)%p.pts.length)) pen) ?_;have jl:=ziG (nth p.pts ((i+p.pts.length-1)%p.pts.length)) x (nth p.pts ((i+1)%p.pts.length)) pen
   refine zb.give [2,5] 1 [.sl zk (jc (nth p.pts ((i+p.pts.length-1)%p.pts.length)) x (nth p.pts ((i+1)%p.pts.length)) pen),.loc 0 0] [(0,.box 94 [.own 1]),(1,.arr 148 zk 1 (kY p pen++yh p pen i))] [(0,.box 94 [.own 2]),(2,.arr 148 zk 1 (uw (kY p pen++yh p pen i) (jc (nth p.pts ((i+p.pts.length-1)%p.pts.length)) x (nth p.pts ((i+1)%p.pts.length)) pen)))] (.tup []) (zGE (kY p pen++yh p pen i) (jc (nth p.pts ((i+p.pts.length-1)%p.pts.length)) x (nth p.pts ((i+1)%p.pts.length)) pen) oM oM)
    LEs.refl rfl rfl rfl ⟨⟨_,rfl,rfl,rfl⟩,⟨_,rfl,rfl,tV⟩,tV⟩ rfl ⟨⟨rfl,rfl⟩,⟨rfl,tV⟩,tV⟩ ?_
   refine wh<|wa<|⟨i+1,oM,zt [0,1,2,3,4,6] ⟨rfl,rfl,rfl,rfl,rfl,aR ?_,tV⟩,oN⟩;rw[zr2 zpH,ej,show zfL p pen i=jc (nth p.pts ((i+p.pts.length-1)%p.pts.length)) (nth p.pts i) (nth p.pts ((i+1)%p.pts.length)) pen from Xc kk,d];exact XM ..
def zcD{k:Nat}(h:r.length<=k):(kH r).length<=k:=by have:=ztN r;omega
def zA2(a b:Pt)(w:Int):(jX a b w).length<=16:=by
 unfold jX
 split
 .simp
 exact zcD sI
def zt7(a:Pt)(w:Int):(vX a w).length<=16:=by
 unfold vX
 split
 .simp
 exact zcD (by rw[Xw];decide)
def cap_l(a b:Pt)(w:Int):(zlg a b w).length<=16:=by
 unfold zlg
 split
 .simp
 exact zcD sI
def zGF(a:Pt)(w:Int):(zef a w).length<=16:=by
 unfold zef
 split
 .simp
 exact zcD sI
def end_l(a b:Pt)(p:Pen):(y8 a b p).length<=16:=by
 unfold y8
 split
 .exact cap_l ..
 split
 .exact zt7 ..
 simp
def dot_l(a:Pt)(p:Pen):(zbB a p).length<=16:=by
 unfold zbB
 split
 .exact zGF ..
 split
 .exact zt7 ..
 simp
def zff{k:Nat}(h:r.length<=k)(c:q∈kO r):q.length<=k:=by rw[zxq c];exact h
def zGG{v:Pt}{p:Pen}:∀r∈jc a v b p,r.length<=16:=by
 intro r c;unfold jc at c
 split at c
 .cases c
 split at c
 .exact zff (zt7 ..) c
 split at c
 .cases c
 refine zff (zcD ?_) c
 split <;> simp
def zGH{p:Pl}{pen:Pen}:∀r∈kv p pen,r.length<=16:=by
 intro r c;unfold kv at c
 rcases Xt.1 c with c|c
 .rcases Xt.1 c with c|c
  .rw[zai]at c
   rcases Xt.1 c with c|c
   .unfold zer at c;obtain⟨i,_,c⟩:=QL.1 c;exact zff (zA2 ..) c
   split at c
   .exact zff (zA2 ..) c
   cases c
  rw[zcC]at c
  split at c
  .cases c
  unfold yh at c;obtain⟨i,_,c⟩:=QL.1 c;unfold zfL at c
  split at c
  .cases c
  exact zGG r c
 unfold zek at c
 split at c
 .exact zff (dot_l ..) c
 split at c
 .rcases Xt.1 c with c|c <;> exact zff (end_l ..) c
 cases c
def zhq(r:LU)(rs:LQ):qe (r::rs)=r.length+qe rs:=by unfold qe;simp
def zDy(a b:LQ):qe (a++b)=qe a+qe b:=by unfold qe;simp
def zvJ{k:Nat}:∀{rs:LQ},(∀r∈rs,r.length<=k)->qe rs<=k*rs.length
 |[],_=>Xh _
 |r::rs,h=>by
  have d:=h r (.head _);have e:=zvJ λq c=>h q (.tail _ c)
  rw[zhq,Xn,YS];omega
def jx(p:Pl):(zu p).pts.length<=p.pts.length:=by
 have h:=ziD p.pts;unfold zu;dsimp only
 split
 .unfold qk
  split
  .rw[Q0];omega
  exact h
 exact h
def ziI{p:Pl}{pen:Pen}(f:p.pts.length<=4096):qe (kv (zu p) pen)<=200000/\(kv (zu p) pen).length<=10000:=by
 have c:=zvJ (zGH (p:=zu p) (pen:=pen));have d:=zt4 (zu p) pen;have e:=jx p;omega
def rgE(c:LQ×Int):SV:=.tup [.sl zk c.1,i64 c.2]
def qJ{c:LQ×Int}{e:Int}(h:c=([],e)):LE (.tup [nS,i64 e]) (rgE c):=by
 rw[h];exact zO zD .refl
def zt8(p:Pl)(pen:Pen)(i:p.pts.length<=4096):CX 254 [wv p,ws pen] (rgE (kA p pen)):=by
 refine zc func254 ?_
 have c:kA p pen=if¬kE pen then([],13) else if¬∀q∈p.pts,zm q then([],6) else if 4096<p.pts.length then([],5)
  else if¬vY (kv (zu p) pen) then([],6) else if 4096<qe (kv (zu p) pen) then([],5) else(kv (zu p) pen,0):=rfl
 refine wg (ze5 pen)<|⟨λk=>?_,λk=>?_⟩
 .have k:¬kE pen:=k;exact qJ (by rw[c,Xe k])
 have k:kE pen:=Xa.1 k;rw[kI k]at c;refine⟨LU,zk,[p.pts],rfl,wb0 ?_⟩;have c1:qe [p.pts]=p.pts.length:=by rw[zhq];rfl
 refine wg (zlN [p.pts] oM) ?_;have g:vY [p.pts]↔∀q∈p.pts,zm q:=⟨λh=>h _ (.head _),λh r l=>by rw[Xu.1 l];exact h⟩;refine⟨λe=>?_,λe=>?_⟩
 .have e:¬∀q∈p.pts,zm q:=λh=>e (g.2 h)
  exact qJ (by rw[c,Xe e])
 have e:∀q∈p.pts,zm q:=g.1 (Xa.1 e);rw[kI e,Xc (show¬4096<p.pts.length by omega)]at c;intro j;refine⟨λm:(4096:Int)<p.pts.length=>?_,λ_=>?_⟩
 .omega
 have rc:=ziI (pen:=pen) i;refine wd<|wg (zho p i)<|wg (zDx (zu p) pen (by have:=jx p;omega))<|wh<|wg (zlN (kv (zu p) pen) oM)<|⟨λd=>?_,λd=>?_⟩
 .have d:¬vY (kv (zu p) pen):=d;exact qJ (by rw[c,Xe d])
 have d:vY (kv (zu p) pen):=Xa.1 d;rw[kI d]at c;refine⟨λf:(4096:Int)<(if vY (kv (zu p) pen) then(qe (kv (zu p) pen):Int) else 0)=>?_,λf:¬(4096:Int)<(if vY (kv (zu p) pen) then(qe (kv (zu p) pen):Int) else 0)=>?_⟩
 .rw[Xe d]at f;exact qJ (by rw[c,Xe oM])
 rw[Xe d]at f;rw[Xc (show¬4096<qe (kv (zu p) pen) by omega)]at c;rw[c];exact .refl
def zt9(p:Pl)(pen:Pen)(l:p.pts.length<=4096):CX 233 [wv p,ws pen] (rgE (kA p pen)):=by
 refine zc func233 ?_
 have c:kA p pen=if¬kE pen then([],13) else if¬∀q∈p.pts,zm q then([],6) else if 4096<p.pts.length then([],5)
  else if¬vY (kv (zu p) pen) then([],6) else if 4096<qe (kv (zu p) pen) then([],5) else(kv (zu p) pen,0):=rfl
 refine wg (zc9 pen)<|⟨λk=>?_,λk=>?_⟩
 .have k:¬kE pen:=k;exact qJ (by rw[c,Xe k])
 have k:kE pen:=Xa.1 k;rw[kI k]at c;refine wg (zr4 p.pts)<|⟨λd=>?_,λd=>?_⟩
 .have d:¬∀q∈p.pts,zm q:=d;exact qJ (by rw[c,Xe d])
 have d:∀q∈p.pts,zm q:=Xa.1 d;rw[kI d,Xc (show¬4096<p.pts.length by omega)]at c;intro n;refine⟨λu:(4096:Int)<p.pts.length=>?_,λ_=>?_⟩
 .omega
 have rc:=ziI (pen:=pen) l;refine wd<|wg (zj3 p l)<|wg (zxF (zu p) pen (by have:=jx p;omega))<|wh<|⟨Nat,λi=>⟨[(6,.sl zk (kv (zu p) pen)),(7,i64 i)],[],0,39,0⟩,λi=>i<=(kv (zu p) pen).length/\vY ((kv (zu p) pen).take i),λi=>(kv (zu p) pen).length-i,0,?_,?_,?_⟩
 .exact⟨Xh _,λr s=>by cases s⟩
 .exact zC []
 rintro i ⟨t,j⟩
 intro o;refine⟨λg:(i:Int)<(kv (zu p) pen).length=>?_,λg:¬(i:Int)<(kv (zu p) pen).length=>?_⟩
 .refine wb λx(m:(kv (zu p) pen)[i]?=some x)=>?_;refine wg (zr4 x)<|⟨λe=>?_,λe=>?_⟩
  .have e:¬vY (kv (zu p) pen):=λh=>e (h x (Xf m))
   exact qJ (by rw[c,Xe e])
  have e:=Xa.1 e;exact wa<|⟨i+1,⟨oM,zda m j e⟩,zC [],oN⟩
 rw[Xi oM]at j;rw[kI j]at c;refine wg (zvH (kv (zu p) pen) oM)<|⟨λf=>?_,λf=>?_⟩
 .have f:(4096:Int)<qe (kv (zu p) pen):=f;exact qJ (by rw[c,Xe oM])
 have f:¬(4096:Int)<qe (kv (zu p) pen):=f;rw[Xc (show¬4096<qe (kv (zu p) pen) by omega)]at c;rw[c];exact .refl
end Go.Gs
