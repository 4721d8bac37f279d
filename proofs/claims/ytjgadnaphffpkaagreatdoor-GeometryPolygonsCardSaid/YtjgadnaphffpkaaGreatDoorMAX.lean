/- Caps and dots, rings put aside, vertices counted, both texts. -/
import Derived.Test.YtjgadnaphffpkaaGreatDoorMA
import Derived.Test.YtjgadnaphffpkaaGreatDoorMAW
import Derived.Test.YtjgadnaphffpkaaGreatDoorMAT
set_option maxRecDepth 100000
set_option maxHeartbeats 8000000
set_option linter.all false
namespace Go.Gs
open Go.Proofs
theorem zAe(a b:Pt)(p:Pen):CG0 312 [.agg (ji p),.agg (ptE a),.agg (ptE b)] [] (.sl ptE (y5 a b p)) []:=by
 refine zc Tryz.func312 ?_;refine⟨λh=>?_,λh=>?_⟩
 ·have h:p.c=5:=h;exact zb.t (p_cap a b p.w)<|z9 (by unfold y5;rw[if_pos h])
 have h:¬p.c=5:=h;refine⟨λk=>?_,λk=>?_⟩
 ·have k:p.c=3:=k;exact zb.t (zrc b p.w)<|z9 (by unfold y5;rw[if_neg h,if_pos k])
 have k:¬p.c=3:=k;have e:y5 a b p=[]:=by unfold y5;rw[if_neg h,if_neg k]
 rw[e];exact zD
theorem zw6(a:Pt)(p:Pen):CG0 308 [.agg (ptE a),.agg (ji p)] [] (.sl ptE (za1 a p)) []:=by
 refine zc Tryz.func308 ?_;refine⟨λh=>?_,λh=>?_⟩
 ·have h:p.c=5:=h;exact zb.t (zBd a p.w)<|z9 (by unfold za1;rw[if_pos h])
 have h:¬p.c=5:=h;refine⟨λk=>?_,λk=>?_⟩
 ·have k:p.c=3:=k;exact zb.t (zrc a p.w)<|z9 (by unfold za1;rw[if_neg h,if_pos k])
 have k:¬p.c=3:=k;have e:za1 a p=[]:=by unfold za1;rw[if_neg h,if_neg k]
 rw[e];exact zD
theorem zw7(a b:Pt)(p:Pen):CG0 257 [.agg (ptE a),.agg (ptE b),.agg (ji p)] [] (.sl ptE (y5 a b p)) []:=by
 refine zc Tryz.func257 ?_;refine⟨λh=>?_,λh=>?_⟩
 ·have h:p.c=5:=h;exact zb.t (r_cap a b p.w)<|z9 (by unfold y5;rw[if_pos h])
 have h:¬p.c=5:=h;refine⟨λk=>?_,λk=>?_⟩
 ·have k:p.c=3:=k;exact zb.t (zrb b p.w)<|z9 (by unfold y5;rw[if_neg h,if_pos k])
 have k:¬p.c=3:=k;have e:y5 a b p=[]:=by unfold y5;rw[if_neg h,if_neg k]
 rw[e];exact zD
theorem zw8(a:Pt)(p:Pen):CG0 256 [.agg (ptE a),.agg (ji p)] [] (.sl ptE (za1 a p)) []:=by
 refine zc Tryz.func256 ?_;refine⟨λh=>?_,λh=>?_⟩
 ·have h:p.c=5:=h;exact zb.t (zBe a p.w)<|z9 (by unfold za1;rw[if_pos h])
 have h:¬p.c=5:=h;refine⟨λk=>?_,λk=>?_⟩
 ·have k:p.c=3:=k;exact zb.t (zrb a p.w)<|z9 (by unfold za1;rw[if_neg h,if_pos k])
 have k:¬p.c=3:=k;have e:za1 a p=[]:=by unfold za1;rw[if_neg h,if_neg k]
 rw[e];exact zD
theorem qt{l:List Pt}{j:Nat}{x:Pt}(h:l[j]? =some x):x=nth l j:=by
 unfold nth;rw[Xt,h];rfl
theorem zrl(l:List Pt)(i:Int)(j:Nat)(hl:0 < l.length/\l.length<=4096)(hi: -1<=i/\i<=l.length)(hj:((i+l.length) % l.length).toNat=j):
  CG0 309 [i64 i,.ptr [.sl ptE l],.ptr [i64 (l.length:Int)]] [] (.agg (ptE (nth l j))) []:=by
 refine zc Tryz.func309 ?_;have m1:=Kv (i+l.length) (show(l.length:Int)≠0 by omega);have m2:=X8 (i+l.length) (show 0 < (l.length:Int) by omega);refine Dr.k<|Ar.o<|Dv.pos ⟨oM,oM⟩<|Ob.mk ⟨m1,m2⟩ ?_;intro x hx;have hx:l[j]? =some x:=by rw[← hj];exact hx
 rw[qt hx];exact .refl
def uv(out rs:List (List Pt)):List (List Pt):=out++rs.filter λr=>decide (0 < r.length)
theorem zpJ(out:List (List Pt))(r:List Pt):uv out [r]=out++kQ r:=by
 unfold uv kQ
 cases r with
 | nil=>rfl
 | cons a b=>rfl
theorem zw9(out:List (List Pt))(r s:List Pt):uv out [r,s]=out++kQ r++kQ s:=by
 unfold uv kQ
 cases r <;> cases s <;> simp
theorem zeq{out rs:List (List Pt)}{i:Nat}{x:List Pt}(h:rs[i]? =some x):uv out (rs.take (i+1))=if 0 < x.length then uv out (rs.take i)++[x] else uv out (rs.take i):=by
 unfold uv;rw[Xm,h]
 by_cases c:0 < x.length
 ·rw[if_pos c];simp[c]
 ·rw[if_neg c];simp[c]
theorem zgo(out rs:List (List Pt)):(uv out rs).length<=out.length+rs.length:=by
 unfold uv;rw[Xi];have:=Q7 (λr:List Pt=>decide (0 < r.length)) rs;omega
theorem zpK{out rs:List (List Pt)}(h:∀r∈rs,0 < r.length):uv out rs=out++rs:=by
 unfold uv;congr 1;exact List.filter_eq_self.2 λr hr=>decide_eq_true (h r hr)
variable{r:List Pt}{q:List Pt}
theorem zb2(h:q∈kQ r):0 < q.length:=by
 unfold kQ at h
 split at h
 ·cases h
 ·rename_i k;rw[Xr.1 h];exact X5 λe=>k (Xn e)
variable{a:Pt}{b:Pt}
theorem znz{v:Pt}{p:Pen}:∀r∈jb a v b p,0 < r.length:=by
 intro r hr;unfold jb at hr
 split at hr
 ·cases hr
 ·split at hr
  ·exact zb2 hr
  ·split at hr
   ·cases hr
   ·exact zb2 hr
theorem zBw(rs:List (List Pt))(hr:rs.length<=4):CG0 307 [.own 1,.loc 0 0] [(0,.box 30 [.val (.slice none 0 0)]),(1,.arr 72 zk 1 rs)] (.tup []) [(0,.box 30 [.own 2]),(2,.arr 72 zk 1 (uv [] rs))]:=by
 refine uX tok mix Tryz.func307 rfl rfl rfl ?_;intro hl1;refine⟨Nat,λi=>⟨[(1,.loc 0 0),(5,.own 1),(6,i64 (rs.length:Int)),(7,i64 (i:Int))],[(0,.box 30 [.own 2]),(2,.arr 72 zk 1 (uv [] (rs.take i))),(1,.arr 72 zk 1 rs)],3,19,2⟩,λi=>i<=rs.length,λi=>rs.length - i,0,?_,?_,?_⟩
 ·exact Xe _
 ·exact zE [(0,some 0),(1,some 1),(2,none)]
 rintro i hi
 have pl:=zgo ([]:List (List Pt)) (rs.take i);rw[Xk]at pl;refine⟨λg=>?_,λg=>?_⟩
 ·have g:(i:Int) < rs.length:=g;refine Ob.o<|Ob.o ?_;intro x hx;have hx:rs[i]? =some x:=hx;have e:=zeq (out:=([]:List (List Pt))) hx;intro hl3;refine⟨λk=>?_,λk=>?_⟩
  ·have k:(0:Int) < x.length:=k;rw[if_pos oM]at e;refine⟨List Pt,zk,[x],rfl,Ob.o0 ?_⟩;refine⟨[x],rfl,Ob.mk ⟨(by show _*(24:Int)<=_;simp only[Xl,Xs]at pl ⊢;omega),(by simp only[Xl,Xs]at pl ⊢;omega),dC,λ_ _=>rfl⟩ ?_⟩;exact Ar.o<|⟨i+1,oM,zC [0,1,4] ⟨rfl,congrArg (λq=>some (Mem.arr 72 zk 1 q)) e.symm,rfl,trivial⟩,by dsimp only;omega⟩
  ·have k:¬(0:Int) < x.length:=k;rw[if_neg oM]at e;exact Ar.o<|⟨i+1,oM,zC [0,1,2] ⟨rfl,congrArg (λq=>some (Mem.arr 72 zk 1 q)) e.symm,rfl,trivial⟩,by dsimp only;omega⟩
 ·have g:¬(i:Int) < rs.length:=g;exact⟨⟨[],[(0,.box 30 [.own 2]),(2,.arr 72 zk 1 (uv [] rs))],3,19,2⟩,zC [0,1,2] ⟨rfl,congrArg (λq=>some (Mem.arr 72 zk 1 (uv [] q))) (Xg oM),trivial⟩,rfl,.refl⟩
theorem zxa(out rs:List (List Pt))(ho:out.length<=100000)(hr:rs.length<=4):CG0 307 [.own 2,.loc 0 0] [(0,.box 30 [.own 1]),(1,.arr 72 zk 1 out),(2,.arr 72 zk 1 rs)] (.tup []) [(0,.box 30 [.own 3]),(3,.arr 72 zk 1 (uv out rs))]:=by
 refine uX tok mix Tryz.func307 rfl rfl rfl ?_;intro hl1;refine⟨Nat,λi=>⟨[(1,.loc 0 0),(5,.own 2),(6,i64 (rs.length:Int)),(7,i64 (i:Int))],[(0,.box 30 [.own 3]),(3,.arr 72 zk 1 (uv out (rs.take i))),(2,.arr 72 zk 1 rs)],4,19,3⟩,λi=>i<=rs.length,λi=>rs.length - i,0,?_,?_,?_⟩
 ·exact Xe _
 ·exact zC [0,1,2,1] ⟨rfl,congrArg (λq=>some (Mem.arr 72 zk 1 q)) (XE out).symm,rfl,trivial⟩
 rintro i hi
 have pl:=zgo out (rs.take i);rw[Xk]at pl;refine⟨λg=>?_,λg=>?_⟩
 ·have g:(i:Int) < rs.length:=g;refine Ob.o<|Ob.o ?_;intro x hx;have hx:rs[i]? =some x:=hx;have e:=zeq (out:=out) hx;intro hl3;refine⟨λk=>?_,λk=>?_⟩
  ·have k:(0:Int) < x.length:=k;rw[if_pos oM]at e;refine⟨List Pt,zk,[x],rfl,Ob.o0 ?_⟩;refine⟨[x],rfl,Ob.mk ⟨(by show _*(24:Int)<=_;simp only[Xl,Xs]at pl ⊢;omega),(by simp only[Xl,Xs]at pl ⊢;omega),dC,λ_ _=>rfl⟩ ?_⟩;exact Ar.o<|⟨i+1,oM,zC [0,1,2,5] ⟨rfl,congrArg (λq=>some (Mem.arr 72 zk 1 q)) e.symm,rfl,trivial⟩,by dsimp only;omega⟩
  ·have k:¬(0:Int) < x.length:=k;rw[if_neg oM]at e;exact Ar.o<|⟨i+1,oM,zC [0,1,2,3] ⟨rfl,congrArg (λq=>some (Mem.arr 72 zk 1 q)) e.symm,rfl,trivial⟩,by dsimp only;omega⟩
 ·have g:¬(i:Int) < rs.length:=g;exact⟨⟨[],[(0,.box 30 [.own 3]),(3,.arr 72 zk 1 (uv out rs))],4,19,3⟩,zC [0,1,2,3] ⟨rfl,congrArg (λq=>some (Mem.arr 72 zk 1 (uv out q))) (Xg oM),trivial⟩,rfl,.refl⟩
theorem zBx(out rs:List (List Pt))(ho:out.length<=100000)(hr:rs.length<=4):CG0 307 [.sl zk rs,.loc 0 0] [(0,.box 30 [.own 1]),(1,.arr 72 zk 1 out)] (.tup []) [(0,.box 30 [.own 2]),(2,.arr 72 zk 1 (uv out rs))]:=by
 refine uX tok mix Tryz.func307 rfl rfl rfl ?_;intro hl1;refine⟨Nat,λi=>⟨[(1,.loc 0 0),(5,.sl zk rs),(6,i64 (rs.length:Int)),(7,i64 (i:Int))],[(0,.box 30 [.own 2]),(2,.arr 72 zk 1 (uv out (rs.take i)))],3,19,2⟩,λi=>i<=rs.length,λi=>rs.length - i,0,?_,?_,?_⟩
 ·exact Xe _
 ·exact zC [0,1,1] ⟨rfl,congrArg (λq=>some (Mem.arr 72 zk 1 q)) (XE out).symm,trivial⟩
 rintro i hi
 have pl:=zgo out (rs.take i);rw[Xk]at pl;refine⟨λg=>?_,λg=>?_⟩
 ·have g:(i:Int) < rs.length:=g;refine Ob.o ?_;intro x hx;have hx:rs[i]? =some x:=hx;have e:=zeq (out:=out) hx;intro hl3;refine⟨λk=>?_,λk=>?_⟩
  ·have k:(0:Int) < x.length:=k;rw[if_pos oM]at e;refine⟨List Pt,zk,[x],rfl,Ob.o0 ?_⟩;refine⟨[x],rfl,Ob.mk ⟨(by show _*(24:Int)<=_;simp only[Xl,Xs]at pl ⊢;omega),(by simp only[Xl,Xs]at pl ⊢;omega),dC,λ_ _=>rfl⟩ ?_⟩;exact Ar.o<|⟨i+1,oM,zC [0,1,4] ⟨rfl,congrArg (λq=>some (Mem.arr 72 zk 1 q)) e.symm,trivial⟩,by dsimp only;omega⟩
  ·have k:¬(0:Int) < x.length:=k;rw[if_neg oM]at e;exact Ar.o<|⟨i+1,oM,zC [0,1,2] ⟨rfl,congrArg (λq=>some (Mem.arr 72 zk 1 q)) e.symm,trivial⟩,by dsimp only;omega⟩
 ·have g:¬(i:Int) < rs.length:=g;exact⟨⟨[],[(0,.box 30 [.own 2]),(2,.arr 72 zk 1 (uv out rs))],3,19,2⟩,zC [0,1,2] ⟨rfl,congrArg (λq=>some (Mem.arr 72 zk 1 (uv out q))) (Xg oM),trivial⟩,rfl,.refl⟩
theorem zho(out:List (List Pt))(r:List Pt)(ho:out.length<=100000):CG0 255 [.own 0,.sl ptE r] [(0,.arr 72 zk 1 out)] (.own 1) [(1,.arr 72 zk 1 (out++kQ r))]:=by
 refine uX tok mix Tryz.func255 rfl rfl rfl ?_;intro hl1;refine⟨λk=>?_,λk=>?_⟩
 ·have k:(r.length:Int)=0:=k;have e:out++kQ r=out:=by rw[Xn (show r.length=0 by omega)];unfold kQ;rw[if_pos rfl,XE]
  rw[e];exact⟨⟨[(4,.own 1)],[(1,.arr 72 zk 1 out)],2,13,1⟩,zf [0,0],rfl,.refl⟩
 ·have k:¬(r.length:Int)=0:=k;have e:out++kQ r=out++[r]:=by unfold kQ;rw[if_neg (λh=>k (by rw[h];rfl))]
  rw[e];refine⟨List Pt,zk,[r],rfl,Ob.o0 ?_⟩;refine⟨[r],rfl,Ob.o15 ?_⟩;exact⟨⟨[(4,.own 1)],[(1,.arr 72 zk 1 (out++[r]))],2,13,1⟩,zf [0,2],rfl,.refl⟩
theorem zyY(p:Pt):CG0 251 [.agg (ptE p)] [] (pr (¬zr p)) []:=by
 refine zc Tryz.func251 ?_;exact zb.t (qg p)<|zF K4
theorem zxb(F:FuncId)(hF:∀p,CG0 F [.agg (ptE p)] [] (pr (¬zr p)) [])(xs:List Pt):CG0 200 [.sl ptE xs,.fn F []] [] (i64 (zhX xs)) []:=by
 refine zc Tryz.func200 ?_;intro hl0;refine⟨Int,λi=>⟨[(8,i64 i),(7,i64 xs.length),(0,.sl ptE xs),(1,.fn F [])],[],0,19,0⟩,λi=>0<=i/\i<=xs.length/\∀(j:Nat) q,(j:Int) < i->xs[j]? =some q->zr q,λi=>((xs.length:Int) - i).toNat,0,?_,?_,?_⟩
 ·exact⟨oM,oM,λj q hj=>by omega⟩
 ·exact zE []
 rintro i ⟨h1,h2,h3⟩
 refine⟨λh4=>?_,λh4=>?_⟩
 ·refine Ob.o ?_;intro x hx;refine zb.t (hF x)<|⟨λh5=>?_,λh5=>?_⟩
  ·refine zi ?_;rw[zo7 (i:=i.toNat) (λj q hj=>h3 j q oM) hx h5];omega
  ·refine Ar.o<|⟨i+1,⟨oM,oM,λj q hj hq=>?_⟩,zE [],by dsimp only;omega⟩
   by_cases e:j=i.toNat
   ·subst e;rw[hx]at hq;cases hq;exact Xa.1 h5
   ·exact h3 j q oM hq
 ·refine zi (ze8 λp hp=>?_).symm;obtain⟨j,hj,he⟩:=Kg hp;exact h3 j p oM (by rw[← he];exact Xb hj)
theorem zpL(F:FuncId)(hF:∀p,CG0 F [.agg (ptE p)] [] (pr (¬zr p)) [])(xs:List Pt):CG0 137 [.sl ptE xs,.fn F []] [] (pr (¬∀p∈xs,zr p)) []:=by
 refine zc Tryz.func137 ?_;exact zb.t (zxb F hF xs)<|zF zga
def vC(rs:List (List Pt)):Prop:=∀r∈rs,∀p∈r,zr p
instance (rs:List (List Pt)):Decidable (vC rs):=inferInstanceAs (Decidable (∀_∈_,_))
def ptsE(rs:List (List Pt)):SV:=.tup [i64 (if vC rs then(qB rs:Int) else 0),pr (vC rs)]
theorem zke(rs:List (List Pt))(hs:(qB rs:Int)<=4611686018427387904):CG0 190 [.sl zk rs] [] (ptsE rs) []:=by
 refine zc Tryz.func190 ?_;intro hl1;refine⟨Nat,λi=>⟨[(4,i64 (qB (rs.take i):Int)),(7,.sl zk rs),(8,i64 (rs.length:Int)),(9,i64 (i:Int))],[],0,21,0⟩,λi=>i<=rs.length/\vC (rs.take i),λi=>rs.length - i,0,?_,?_,?_⟩
 ·exact⟨Xe _,λr hr=>by cases hr⟩
 ·exact zE []
 rintro i ⟨h1,h2⟩
 refine⟨λg=>?_,λg=>?_⟩
 ·have g:(i:Int) < rs.length:=g;refine Ob.o ?_;intro x hx;have hx:rs[i]? =some x:=hx;refine zb.t (zpL 251 zyY x)<|⟨λk=>?_,λk=>?_⟩
  ·have k:¬vC rs:=λh=>k (h x (Xd hx))
   refine zI (zi (by rw[if_neg k])) (zd k)
  ·have k:∀p∈x,zr p:=Xa.1 k;intro hl4;have c1:=vL hx;have c2:=zcA rs (i+1);(iterate 2 refine Ar.o ?_);refine⟨i+1,⟨oM,zcB hx h2 k⟩,jG [] ⟨congrArg (λn=>some (i64 n)) oM,rfl,rfl,rfl,trivial⟩ trivial,by dsimp only;omega⟩
 ·have g:¬(i:Int) < rs.length:=g;rw[Xg oM]at h2;have e:qB (rs.take i)=qB rs:=by rw[Xg oM]
  exact zI (zi (by rw[if_pos h2,e])) (zT h2)
theorem zpM(l:List Pt):CG0 197 [.sl ptE l] [] (pr (∀p∈l,zr p)) []:=by
 refine zc Tryz.func197 ?_;refine⟨Nat,λi=>⟨[(0,.sl ptE l),(3,i64 (i:Int))],[],0,16,0⟩,λi=>i<=l.length/\∀p∈l.take i,zr p,λi=>l.length - i,0,?_,?_,?_⟩
 ·exact⟨Xe _,λp hp=>by cases hp⟩
 ·exact zE []
 rintro i ⟨h1,h2⟩
 intro hl1;refine⟨λg=>?_,λg=>?_⟩
 ·have g:(i:Int) < l.length:=g;refine Ob.o ?_;intro x hx;have hx:l[i]? =some x:=hx;refine zb.t (kH x)<|⟨λb=>zd λk=>b (k x (Xd hx)),λb=>?_⟩;have b:=Xa.1 b;refine Ar.o<|⟨i+1,⟨oM,λp hp=>?_⟩,zE [],by dsimp only;omega⟩;rw[Xm,hx]at hp
  rcases Xo.1 hp with hp | hp
  ·exact h2 p hp
  ·simp at hp;rw[hp];exact b
 ·have g:¬(i:Int) < l.length:=g;rw[Xg oM]at h2;exact zT h2
theorem zsL(rs:List (List Pt))(hs:(qB rs:Int)<=4611686018427387904):CG0 134 [.sl zk rs] [] (i64 (qB rs:Int)) []:=by
 refine zc Tryz.func134 ?_;refine⟨Nat,λi=>⟨[(0,.sl zk rs),(3,i64 (qB (rs.take i):Int)),(4,i64 (i:Int))],[],0,19,0⟩,λi=>i<=rs.length,λi=>rs.length - i,0,?_,?_,?_⟩
 ·exact Xe _
 ·exact zE []
 rintro i h1
 intro hl1;refine⟨λg=>?_,λg=>?_⟩
 ·have g:(i:Int) < rs.length:=g;refine Ob.o ?_;intro x hx;have hx:rs[i]? =some x:=hx;intro hl4;have c1:=vL hx;have c2:=zcA rs (i+1);(iterate 2 refine Ar.o ?_);refine⟨i+1,oM,jG [] ⟨rfl,congrArg (λn=>some (i64 n)) oM,rfl,trivial⟩ trivial,by dsimp only;omega⟩
 ·have g:¬(i:Int) < rs.length:=g;exact zi (by rw[Xg oM])
theorem vr(r:List Pt):(kQ r).length<=1:=by unfold kQ;split <;> simp
def zdI(l:List Pt)(w:Int)(n:Nat):List (List Pt):=(List.range n).flatMap λi=>kQ (jZ (nth l i) (nth l (i+1)) w)
theorem zhp(l:List Pt)(w:Int)(n:Nat):zdI l w (n+1)=zdI l w n++kQ (jZ (nth l n) (nth l (n+1)) w):=by
 unfold zdI;rw[K7,K8,Q3]
theorem zpN(l:List Pt)(w:Int)(n:Nat):(zdI l w n).length<=n:=by
 induction n with
 | zero=>exact Xh 0
 | succ n ih=>
  rw[zhp,Xi];have:=vr (jZ (nth l n) (nth l (n+1)) w);omega
theorem vP(p:Pl)(pen:Pen):kY p pen=zdI p.pts pen.w (p.pts.length - 1)++
  (if p.cl=true/\1 < p.pts.length then kQ (jZ (nth p.pts (p.pts.length - 1)) (nth p.pts 0) pen.w) else[]):=rfl
theorem zfj(p:Pl)(pen:Pen):(kY p pen).length<=p.pts.length+1:=by
 rw[vP,Xi];have h1:=zpN p.pts pen.w (p.pts.length - 1);have h2:=vr (jZ (nth p.pts (p.pts.length - 1)) (nth p.pts 0) pen.w)
 split
 ·omega
 ·rw[Xs];omega
theorem zxc(p:Pl)(pen:Pen)(hp:p.pts.length<=4096):CG0 253 [.agg (plE p),.agg (ji pen)] [] (.own 0) [(0,.arr 72 zk 1 (kY p pen))]:=by
 refine qS tok mix Tryz.func253 rfl rfl rfl<|⟨List Pt,zk,[],rfl,Ob.o2 ?_⟩;intro hl1;refine⟨Nat,λi=>⟨[(2,.loc 0 0),(3,.loc 1 0),(5,.own 2),(6,i64 (p.pts.length:Int)),(7,i64 (i:Int))],[(0,.box 118 [.sl ptE p.pts,pr (p.cl=true)]),(1,.box 50 (ji pen)),(2,.arr 72 zk 1 (zdI p.pts pen.w i))],3,56,0⟩,λi=>i<=p.pts.length - 1,λi=>p.pts.length - i,0,?_,?_,?_⟩
 ·exact Xe _
 ·exact zf [0,1,2]
 rintro i hi
 have bl:=zpN p.pts pen.w i;refine Ar.o<|Br.mk (λg=>?_) (λg=>?_)
 ·have g:(i:Int)+1 < p.pts.length:=g;refine Dr.d<|Ob.o ?_;intro x hx;have hx:=qt (show p.pts[i]? =some x from hx);refine Ar.o<|Ob.o ?_;intro y hy;have hy:=qt (show p.pts[i+1]? =some y from hy);refine zb.t (zwt x y pen.w) ?_
  refine zb.give [2] 1 [.own 0,.sl ptE (jZ x y pen.w)] [(0,.arr 72 zk 1 (zdI p.pts pen.w i))] [(1,.arr 72 zk 1 (zdI p.pts pen.w i++kQ (jZ x y pen.w)))] (.own 1) (zho (zdI p.pts pen.w i) (jZ x y pen.w) oM)
   LEs.refl rfl rfl rfl ⟨⟨_,rfl,rfl,trivial⟩,trivial⟩ rfl ⟨⟨rfl,trivial⟩,trivial⟩ ?_
  refine Ob.mk (by kernel_rfl)<|Ar.o ?_;refine⟨i+1,oM,zC [0,1,3] ⟨rfl,rfl,congrArg (λq=>some (Mem.arr 72 zk 1 q)) (by rw[zhp,← hx,← hy]),trivial⟩,by dsimp only;omega⟩
 have g:¬(i:Int)+1 < p.pts.length:=g;have ei:i=p.pts.length - 1:=oM
 have no:¬(p.cl=true/\1 < p.pts.length)->∃k,zaO k (.own 2) (.own 0)/\zvi [(0,.box 118 [.sl ptE p.pts,pr (p.cl=true)]),(1,.box 50 (ji pen)),(2,.arr 72 zk 1 (zdI p.pts pen.w i))] k (.arr 72 zk 1 (kY p pen)):=λh=>by
  refine⟨some 2,.own _ rfl,congrArg (λq=>some (Mem.arr 72 zk 1 q)) ?_,λ_ _=>rfl⟩;rw[vP,if_neg h,ei,XE]
 refine⟨λc=>?_,λc=>no λh=>c h.1⟩;refine⟨λc2=>?_,λc2=>no λh=>c2 (show(1:Int) < p.pts.length by have:=h.2;omega)⟩
 ·have c:p.cl=true:=c;have c2:(1:Int) < p.pts.length:=c2;refine Dr.d<|Ar.o<|Ob.o ?_;intro x hx;have hx:=qt (show p.pts[((p.pts.length:Int) - 1).toNat]? =some x from hx);refine Ob.o ?_;intro y hy;have hy:=qt (show p.pts[0]? =some y from hy);refine zb.t (zwt x y pen.w) ?_
  refine zb.give [2] 1 [.own 0,.sl ptE (jZ x y pen.w)] [(0,.arr 72 zk 1 (zdI p.pts pen.w i))] [(1,.arr 72 zk 1 (zdI p.pts pen.w i++kQ (jZ x y pen.w)))] (.own 1) (zho (zdI p.pts pen.w i) (jZ x y pen.w) oM)
   LEs.refl rfl rfl rfl ⟨⟨_,rfl,rfl,trivial⟩,trivial⟩ rfl ⟨⟨rfl,trivial⟩,trivial⟩ ?_
  refine Ob.mk (by kernel_rfl)<|⟨some 3,.own _ rfl,congrArg (λq=>some (Mem.arr 72 zk 1 q)) ?_,λ_ _=>rfl⟩;rw[vP,if_pos ⟨c,oM⟩,ei,hx,hy,show((p.pts.length:Int) - 1).toNat=p.pts.length - 1 by omega]
def zeR(p:Pl)(pen:Pen)(i:Nat):List (List Pt):=if ¬p.cl=true/\(i=0∨i=p.pts.length - 1) then[]
  else jb (nth p.pts ((i+p.pts.length - 1) % p.pts.length)) (nth p.pts i) (nth p.pts ((i+1) % p.pts.length)) pen
def yg(p:Pl)(pen:Pen)(n:Nat):List (List Pt):=(List.range n).flatMap (zeR p pen)
theorem zfk(p:Pl)(pen:Pen)(n:Nat):yg p pen (n+1)=yg p pen n++zeR p pen n:=by
 unfold yg;rw[K7,K8,Q3]
theorem zb3(p:Pl)(pen:Pen):jj p pen=if p.pts.length<=1 then[] else yg p pen p.pts.length:=rfl
theorem zhq(a v b:Pt)(p:Pen):(jb a v b p).length<=1:=by
 unfold jb
 split
 ·decide
 ·split
  ·exact vr _
  ·split
   ·decide
   ·exact vr _
theorem zug(p:Pl)(pen:Pen)(i:Nat):(zeR p pen i).length<=1:=by
 unfold zeR
 split
 ·decide
 ·exact zhq ..
theorem zhr(p:Pl)(pen:Pen)(n:Nat):(yg p pen n).length<=n:=by
 induction n with
 | zero=>exact Xh 0
 | succ n ih=>
  rw[zfk,Xi];have:=zug p pen n;omega
theorem zl2(p:Pl)(pen:Pen):(jj p pen).length<=p.pts.length:=by
 rw[zb3]
 split
 ·exact Xe _
 ·exact zhr ..
theorem zuh{out rs:List (List Pt)}{i:Nat}{x:List Pt}(h:rs[i]? =some x):uv out (rs.take (i+1))=uv out (rs.take i)++kQ x:=by
 rw[zeq h];unfold kQ
 cases x with
 | nil=>simp
 | cons a b=>simp
theorem zyZ(p:Pl)(pen:Pen)(hp:p.pts.length<=4096):CG0 254 [.agg (plE p),.agg (ji pen)] [] (.sl zk (jj p pen)) []:=by
 refine zc Tryz.func254 ?_;refine⟨List Pt,zk,[],rfl,Ob.o2 ?_⟩;intro hl1;refine⟨Nat,λi=>⟨[(2,.loc 0 0),(3,.loc 1 0),(5,.own 2),(6,i64 (p.pts.length:Int)),(7,i64 (i:Int))],[(0,.box 118 [.sl ptE p.pts,pr (p.cl=true)]),(1,.box 50 (ji pen)),(2,.arr 72 zk 1 (yg p pen i))],3,74,0⟩,λi=>i<=p.pts.length/\(p.pts.length<=1->i=0),λi=>p.pts.length - i,0,?_,?_,?_⟩
 ·exact⟨Xe _,λ_=>rfl⟩
 ·exact zf [0,1,2]
 rintro i ⟨hi,h1⟩
 have bl:=zhr p pen i;have e:=zfk p pen i
 have over:(p.pts.length<=i∨p.pts.length<=1)->LE (.sl zk (yg p pen i)) (.sl zk (jj p pen)):=λh=>by
  refine z9 ?_;rw[zb3]
  split
  ·rename_i k;rw[h1 k];rfl
  ·rw[show i=p.pts.length by omega]
 refine⟨λg=>?_,λg=>over (.inl (by have g:¬(i:Int) < p.pts.length:=g;omega))⟩;have g:(i:Int) < p.pts.length:=g;refine⟨λg2=>?_,λg2=>over (.inr (by have g2:¬(1:Int) < p.pts.length:=g2;omega))⟩;have g2:(1:Int) < p.pts.length:=g2
 have skip:¬p.cl=true->i=0∨i=p.pts.length - 1->yg p pen i=yg p pen (i+1):=λh k=>by
  rw[e,show zeR p pen i=[] from if_pos ⟨h,k⟩,XE]
 refine⟨λc=>Br.mk (λc1=>?A) (λc1=>Ar.fit oM (Br.mk (λc2=>?B) (λc2=>?C))),λc=>?D⟩
 case A=>
  have c1:(i:Int)=0:=c1;exact Ar.o<|⟨i+1,⟨oM,λ_=>by omega⟩,zC [0,1,2] ⟨rfl,rfl,congrArg (λq=>some (Mem.arr 72 zk 1 q)) (skip c (.inl oM)),trivial⟩,by dsimp only;omega⟩
 case B=>
  have c2:(i:Int)=p.pts.length - 1:=c2;exact Ar.o<|⟨i+1,⟨oM,λ_=>by omega⟩,zC [0,1,2] ⟨rfl,rfl,congrArg (λq=>some (Mem.arr 72 zk 1 q)) (skip c (.inr oM)),trivial⟩,by dsimp only;omega⟩
 case' C=>
  have c1:¬(i:Int)=0:=c1;have c2:¬(i:Int)=p.pts.length - 1:=c2;replace c:¬(¬p.cl=true/\(i=0∨i=p.pts.length - 1)):=λh=>oM
 case' D=>replace c:¬(¬p.cl=true/\(i=0∨i=p.pts.length - 1)):=λh=>c h.1
 all_goals
  have m1:=Kv ((i:Int)+p.pts.length - 1) (show(p.pts.length:Int)≠0 by omega);have m2:=X8 ((i:Int)+p.pts.length - 1) (show 0 < (p.pts.length:Int) by omega);have m3:=Kv ((i:Int)+1) (show(p.pts.length:Int)≠0 by omega);have m4:=X8 ((i:Int)+1) (show 0 < (p.pts.length:Int) by omega)
  have e1:(((i:Int)+p.pts.length - 1) % p.pts.length).toNat=(i+p.pts.length - 1) % p.pts.length:=by
   rw[show(i:Int)+p.pts.length - 1=((i+p.pts.length - 1:Nat):Int) by omega];omega
  have e2:(((i:Int)+1) % p.pts.length).toNat=(i+1) % p.pts.length:=by
   rw[show(i:Int)+1=((i+1:Nat):Int) by omega];omega
  refine Dr.d ?_;(iterate 2 refine Ar.o ?_);refine Dv.pos ⟨oM,oM⟩<|Ob.mk ⟨m1,m2⟩ ?_;intro x hx;have hx:=qt (show p.pts[(((i:Int)+p.pts.length - 1) % p.pts.length).toNat]? =some x from hx);rw[e1]at hx;refine Ob.o ?_;intro y hy;have hy:=qt (show p.pts[i]? =some y from hy);refine Ar.o<|Dv.pos ⟨oM,oM⟩<|Ob.mk ⟨m3,m4⟩ ?_;intro z hz;have hz:=qt (show p.pts[(((i:Int)+1) % p.pts.length).toNat]? =some z from hz);rw[e2]at hz;refine zb.t (zBm x y z pen)<|Ob.mk (by kernel_rfl) ?_;have jl:=zhq x y z pen
  refine⟨Nat,λj=>⟨[(2,.loc 0 0),(3,.loc 1 0),(5,.own 2),(6,i64 (p.pts.length:Int)),(7,i64 (i:Int)),(8,.sl zk (jb x y z pen)),(9,i64 (j:Int))],[(0,.box 118 [.sl ptE p.pts,pr (p.cl=true)]),(1,.box 50 (ji pen)),(2,.arr 72 zk 1 (uv (yg p pen i) ((jb x y z pen).take j)))],3,74,0⟩,λj=>j<=(jb x y z pen).length,λj=>(jb x y z pen).length - j,0,?_,?_,?_⟩
  ·exact Xe _
  ·exact zC [0,1,2] ⟨rfl,rfl,congrArg (λq=>some (Mem.arr 72 zk 1 q)) (XE (yg p pen i)).symm,trivial⟩
  rintro j hj
  have pl:=zgo (yg p pen i) ((jb x y z pen).take j);rw[Xk]at pl;intro hl4;refine⟨λk=>?_,λk=>?_⟩
  ·have k:(j:Int) < (jb x y z pen).length:=k;refine Ob.o ?_;intro r hr;have hr:=zuh (out:=yg p pen i) (show(jb x y z pen)[j]? =some r from hr)
   refine zb.give [2] 1 [.own 0,.sl ptE r] [(0,.arr 72 zk 1 (uv (yg p pen i) ((jb x y z pen).take j)))] [(1,.arr 72 zk 1 (uv (yg p pen i) ((jb x y z pen).take j)++kQ r))] (.own 1) (zho (uv (yg p pen i) ((jb x y z pen).take j)) r oM)
    LEs.refl rfl rfl rfl ⟨⟨_,rfl,rfl,trivial⟩,trivial⟩ rfl ⟨⟨rfl,trivial⟩,trivial⟩ ?_
   refine Ar.o ?_;refine⟨j+1,oM,zC [0,1,3] ⟨rfl,rfl,congrArg (λq=>some (Mem.arr 72 zk 1 q)) hr.symm,trivial⟩,by dsimp only;omega⟩
  ·have k:¬(j:Int) < (jb x y z pen).length:=k;refine Ar.o<|⟨i+1,⟨oM,λ_=>by omega⟩,zC [0,1,2] ⟨rfl,rfl,congrArg (λq=>some (Mem.arr 72 zk 1 q)) ?_,trivial⟩,by dsimp only;omega⟩;rw[Xg oM,zpK znz,e,show zeR p pen i=jb x y z pen by rw[hx,hy,hz];exact if_neg c]
variable{p:Pl}{pen:Pen}
theorem zpO(h:p.pts.length=1):zdC p pen=kQ (za1 (nth p.pts 0) pen):=by unfold zdC;rw[if_pos h]
theorem zpP(h:1 < p.pts.length)(k:¬p.cl=true):zdC p pen=kQ (y5 (nth p.pts 1) (nth p.pts 0) pen)++kQ (y5 (nth p.pts (p.pts.length - 2)) (nth p.pts (p.pts.length - 1)) pen):=by
 unfold zdC;rw[if_neg (show ¬p.pts.length=1 by omega),if_pos ⟨h,k⟩]
theorem znA(h:¬p.pts.length=1)(k:¬(1 < p.pts.length/\¬p.cl=true)):zdC p pen=[]:=by
 unfold zdC;rw[if_neg h,if_neg k]
theorem zxd(p:Pl)(pen:Pen):(zdC p pen).length<=2:=by
 unfold zdC
 split
 ·have:=vr (za1 (nth p.pts 0) pen);omega
 ·split
  ·have h1:=vr (y5 (nth p.pts 1) (nth p.pts 0) pen);have h2:=vr (y5 (nth p.pts (p.pts.length - 2)) (nth p.pts (p.pts.length - 1)) pen);rw[Xi];omega
  ·decide
theorem zrm(p:Pl)(pen:Pen):(kw p pen).length<=2*p.pts.length+3:=by
 unfold kw;rw[Xi,Xi];have h1:=zfj p pen;have h2:=zl2 p pen;have h3:=zxd p pen;omega
theorem zl3(h:¬1 < p.pts.length):kY p pen=zdI p.pts pen.w (p.pts.length - 1):=by
 rw[vP,if_neg (λk=>h k.2),XE]
theorem zpQ(h:p.pts.length<=1):jj p pen=[]:=by rw[zb3,if_pos h]
theorem zrn(h:p.pts.length=0):kw p pen=[]:=by
 unfold kw;rw[zl3 oM,zpQ oM,znA oM oM,h];rfl
theorem zro(h:p.pts.length=1):kw p pen=kQ (za1 (nth p.pts 0) pen):=by
 unfold kw;rw[zl3 oM,zpQ oM,zpO h,h];rfl
theorem zui(p:Pl)(pen:Pen)(hp:p.pts.length<=4096):CG0 198 [.agg (plE p),.agg (ji pen)] [] (.sl zk (kw p pen)) []:=by
 refine zc Tryz.func198 ?_;refine zb.fresh _ _ (zxc p pen hp) rfl (λ_ _=>rfl) (.inl rfl)<|zb.t (zyZ p pen hp) ?_;have lb:=zfj p pen;have lj:=zl2 p pen;refine⟨Nat,λi=>⟨[(2,.loc 0 0),(3,.loc 1 0),(5,.own 2),(6,.sl zk (jj p pen)),(7,i64 (i:Int))],[(0,.box 118 [.sl ptE p.pts,pr (p.cl=true)]),(1,.box 50 (ji pen)),(2,.arr 72 zk 1 (kY p pen++(jj p pen).take i))],3,77,0⟩,λi=>i<=(jj p pen).length,λi=>(jj p pen).length - i,0,?_,?_,?_⟩
 ·exact Xe _
 ·exact zC [0,1,2] ⟨rfl,rfl,congrArg (λq=>some (Mem.arr 72 zk 1 q)) (XE (kY p pen)).symm,trivial⟩
 rintro i hi
 intro hl1;refine⟨λg=>?_,λg=>?_⟩
 ·have g:(i:Int) < (jj p pen).length:=g;refine Ob.o ?_;intro x hx;have hx:(jj p pen)[i]? =some x:=hx;refine⟨List Pt,zk,[x],rfl,Ob.o0 ?_⟩;refine⟨[x],rfl,Ob.o24 ?_⟩;refine Ar.o ?_;refine⟨i+1,oM,zC [0,1,4] ⟨rfl,rfl,congrArg (λq=>some (Mem.arr 72 zk 1 q)) (by rw[Xm,hx];exact XL ..),trivial⟩,by dsimp only;omega⟩
 have g:¬(i:Int) < (jj p pen).length:=g;have et:(jj p pen).take i=jj p pen:=Xg oM;have ll:(kY p pen++(jj p pen).take i).length<=100000:=by rw[et,Xi];omega
 intro hl2;refine⟨λn1=>?_,λn1=>?_⟩
 ·have n1:(p.pts.length:Int)=1:=n1;refine Dr.d<|Ob.o ?_;intro x hx;have hx:=qt (show p.pts[0]? =some x from hx);refine zb.t (zw8 x pen) ?_
  refine zb.give [2] 1 [.own 0,.sl ptE (za1 x pen)] [(0,.arr 72 zk 1 (kY p pen++(jj p pen).take i))] [(1,.arr 72 zk 1 (kY p pen++(jj p pen).take i++kQ (za1 x pen)))] (.own 1) (zho (kY p pen++(jj p pen).take i) (za1 x pen) ll)
   LEs.refl rfl rfl rfl ⟨⟨_,rfl,rfl,trivial⟩,trivial⟩ rfl ⟨⟨rfl,trivial⟩,trivial⟩ ?_
  refine Ob.mk (by kernel_rfl)<|⟨λk=>absurd k oM,λ_=>?_⟩;refine z9 ?_;unfold kw;rw[et,zpO oM,hx]
 have n1:¬(p.pts.length:Int)=1:=n1
 have no:¬(1 < p.pts.length/\¬p.cl=true)->LE (.sl zk (kY p pen++(jj p pen).take i)) (.sl zk (kw p pen)):=λh=>by
  refine z9 ?_;unfold kw;rw[et,znA oM h,XE]
 refine⟨λk=>?_,λk=>no λh=>by have k:¬(1:Int) < p.pts.length:=k;omega⟩;have k:(1:Int) < p.pts.length:=k;refine⟨λc=>?_,λc=>no λh=>c h.2⟩;have c:¬p.cl=true:=c;refine Dr.d<|Ob.o ?_;intro x hx;have hx:=qt (show p.pts[1]? =some x from hx);refine Ob.o ?_;intro y hy;have hy:=qt (show p.pts[0]? =some y from hy);refine zb.t (zw7 x y pen) ?_;have s1:=vr (y5 x y pen)
 refine zb.give [2] 1 [.own 0,.sl ptE (y5 x y pen)] [(0,.arr 72 zk 1 (kY p pen++(jj p pen).take i))] [(1,.arr 72 zk 1 (kY p pen++(jj p pen).take i++kQ (y5 x y pen)))] (.own 1) (zho (kY p pen++(jj p pen).take i) (y5 x y pen) ll)
  LEs.refl rfl rfl rfl ⟨⟨_,rfl,rfl,trivial⟩,trivial⟩ rfl ⟨⟨rfl,trivial⟩,trivial⟩ ?_
 refine Ob.mk (by kernel_rfl)<|Dr.d<|Ar.o<|Ob.o ?_;intro u hu;have hu:=qt (show p.pts[((p.pts.length:Int) - 2).toNat]? =some u from hu);rw[show((p.pts.length:Int) - 2).toNat=p.pts.length - 2 by omega]at hu;refine Ar.o<|Ob.o ?_;intro v hv;have hv:=qt (show p.pts[((p.pts.length:Int) - 1).toNat]? =some v from hv);rw[show((p.pts.length:Int) - 1).toNat=p.pts.length - 1 by omega]at hv;refine zb.t (zw7 u v pen) ?_
 refine zb.give [3] 1 [.own 0,.sl ptE (y5 u v pen)] [(0,.arr 72 zk 1 (kY p pen++(jj p pen).take i++kQ (y5 x y pen)))] [(1,.arr 72 zk 1 (kY p pen++(jj p pen).take i++kQ (y5 x y pen)++kQ (y5 u v pen)))] (.own 1) (zho (kY p pen++(jj p pen).take i++kQ (y5 x y pen)) (y5 u v pen) (by rw[et,Xi,Xi];omega))
  LEs.refl rfl rfl rfl ⟨⟨_,rfl,rfl,trivial⟩,trivial⟩ rfl ⟨⟨rfl,trivial⟩,trivial⟩ ?_
 refine Ob.mk (by kernel_rfl)<|z9 ?_;unfold kw;rw[et,zpP oM c,hx,hy,hu,hv];exact XL ..
def zkf(p:Pl)(pen:Pen)(n:Nat):List (List Pt):=(List.range n).flatMap λi=>kQ (jZ (nth p.pts i) (nth p.pts ((i+1) % p.pts.length)) pen.w)
theorem zer(p:Pl)(pen:Pen)(n:Nat):zkf p pen (n+1)=zkf p pen n++kQ (jZ (nth p.pts n) (nth p.pts ((n+1) % p.pts.length)) pen.w):=by
 unfold zkf;rw[K7,K8,Q3]
theorem znB(p:Pl)(pen:Pen):∀n,n < p.pts.length->zkf p pen n=zdI p.pts pen.w n
 | 0,_=>rfl
 | n+1,h=>by rw[zer,zhp,znB p pen n oM,Xu h]
theorem zxe(p:Pl)(pen:Pen)(n:Nat):(zkf p pen n).length<=n:=by
 induction n with
 | zero=>exact Xh 0
 | succ n ih=>
  rw[zer,Xi];have:=vr (jZ (nth p.pts n) (nth p.pts ((n+1) % p.pts.length)) pen.w);omega
def zdJ(p:Pl):Nat:=if p.cl=true then p.pts.length else p.pts.length - 1
theorem zpR(h:p.cl=true):zdJ p=p.pts.length:=if_pos h
theorem zsM(h:¬p.cl=true):zdJ p=p.pts.length - 1:=if_neg h
theorem zy0(p:Pl):zdJ p<=p.pts.length:=by unfold zdJ;split <;> omega
theorem zxf(h:1 < p.pts.length):zkf p pen (zdJ p)=kY p pen:=by
 rw[vP]
 by_cases c:p.cl=true
 ·rw[zpR c,if_pos ⟨c,h⟩];obtain⟨m,hm⟩:∃m,p.pts.length=m+1:=⟨p.pts.length - 1,oM⟩;rw[hm,zer,znB p pen m oM,hm,JW];rfl
 ·rw[zsM c,if_neg (λh=>c h.1),znB p pen _ oM,XE]
theorem zy1(p:Pl)(pen:Pen)(hp:p.pts.length<=4096):CG0 250 [.agg (plE p),.agg (ji pen)] [] (.sl zk (kw p pen)) []:=by
 refine zc Tryz.func250 ?_;intro hl1;refine⟨λn0=>?_,λn0=>?_⟩
 ·have n0:(p.pts.length:Int)=0:=n0;rw[zrn oM];exact zD
 have n0:¬(p.pts.length:Int)=0:=n0;refine⟨λn1=>?_,λn1=>?_⟩
 ·have n1:(p.pts.length:Int)=1:=n1;refine Dr.d<|Ob.o ?_;intro x hx;have hx:=qt (show p.pts[0]? =some x from hx);refine zb.t (zw6 x pen)<|⟨List Pt,zk,[za1 x pen],rfl,Ob.o0 ?_⟩
  refine zb.give [2,5] 1 [.own 1,.loc 0 0] [(0,.box 30 [.val (.slice none 0 0)]),(1,.arr 72 zk 1 [za1 x pen])] [(0,.box 30 [.own 2]),(2,.arr 72 zk 1 (uv [] [za1 x pen]))] (.tup []) (zBw [za1 x pen] (by simp))
   LEs.refl rfl rfl rfl ⟨⟨_,rfl,rfl,rfl⟩,⟨_,rfl,rfl,trivial⟩,trivial⟩ rfl ⟨⟨rfl,rfl⟩,⟨rfl,trivial⟩,trivial⟩ ?_
  refine Ob.mk (by kernel_rfl)<|z9 ?_;rw[zro oM,← hx,zpJ];rfl
 have n1:¬(p.pts.length:Int)=1:=n1;refine Ar.o ?_;have h2:1 < p.pts.length:=oM;refine⟨λc=>?C,λc=>?D⟩
 case' C=>
  have c:p.cl=true:=c;have hL:=zpR c
 case' D=>
  have c:¬p.cl=true:=c;have hL:=zsM c
 all_goals
  have hle:=zy0 p;refine⟨Nat,λi=>⟨[(2,.loc 0 0),(3,.loc 1 0),(5,.loc 2 0),(6,.fn 307 [.loc 2 0]),(7,.loc 3 0),(8,.loc 4 0),(9,.fn 309 [.loc 3 0,.loc 4 0]),(39,i64 (zdJ p:Int)),(40,i64 (i:Int))],[(0,.box 118 [.sl ptE p.pts,pr (p.cl=true)]),(1,.box 50 (ji pen)),(2,.box 30 [.own 5]),(3,.box 72 [.sl ptE p.pts]),(4,.box 3 [i64 (p.pts.length:Int)]),(5,.arr 72 zk 1 (zkf p pen i))],6,121,0⟩,λi=>i<=zdJ p,λi=>zdJ p - i,0,?_,?_,?_⟩
  ·exact Xe _
  ·exact jG [(0,some 0),(1,some 1),(2,some 2),(3,some 3),(4,some 4),(5,none)] ⟨rfl,rfl,rfl,rfl,rfl,rfl,rfl,congrArg (λn=>some (i64 n)) oM,rfl,trivial⟩ ⟨rfl,rfl,rfl,rfl,rfl,rfl,trivial⟩
  rintro i hi
  have bl:=zxe p pen i;refine⟨λg=>?_,λg=>?_⟩
  ·have g:(i:Int) < zdJ p:=g;refine Dr.d<|Ob.o ?_;intro x hx;have hx:=qt (show p.pts[i]? =some x from hx);refine Ar.o<|zb.t (zrl p.pts ((i:Int)+1) ((i+1) % p.pts.length) ⟨oM,hp⟩ ⟨oM,oM⟩ (by rw[show(i:Int)+1+p.pts.length=((i+1:Nat):Int)+(p.pts.length:Int) by omega,Int.add_emod_right];omega))<|zb.t (zBc x (nth p.pts ((i+1) % p.pts.length)) pen.w)<|⟨List Pt,zk,[jZ x (nth p.pts ((i+1) % p.pts.length)) pen.w],rfl,Ob.o0 ?_⟩
   refine zb.give [2,5,6] 1 [.own 2,.loc 0 0] [(0,.box 30 [.own 1]),(1,.arr 72 zk 1 (zkf p pen i)),(2,.arr 72 zk 1 [jZ x (nth p.pts ((i+1) % p.pts.length)) pen.w])] [(0,.box 30 [.own 3]),(3,.arr 72 zk 1 (uv (zkf p pen i) [jZ x (nth p.pts ((i+1) % p.pts.length)) pen.w]))] (.tup []) (zxa (zkf p pen i) [jZ x (nth p.pts ((i+1) % p.pts.length)) pen.w] oM (by simp))
      LEs.refl rfl rfl rfl ⟨⟨_,rfl,rfl,rfl⟩,⟨_,rfl,rfl,trivial⟩,⟨_,rfl,rfl,trivial⟩,trivial⟩ rfl ⟨⟨rfl,rfl⟩,⟨rfl,trivial⟩,trivial⟩ ?_
   refine Ob.mk (by kernel_rfl)<|Ar.o ?_;refine⟨i+1,oM,zC [0,1,2,3,4,7] ⟨rfl,rfl,rfl,rfl,rfl,congrArg (λq=>some (Mem.arr 72 zk 1 q)) (by rw[zer,zpJ,hx]),trivial⟩,by dsimp only;omega⟩
  have g:¬(i:Int) < zdJ p:=g;have eb:zkf p pen i=kY p pen:=by rw[← zxf h2,show i=zdJ p by omega]
  refine⟨Nat,λi=>⟨[(2,.loc 0 0),(3,.loc 1 0),(5,.loc 2 0),(6,.fn 307 [.loc 2 0]),(7,.loc 3 0),(8,.loc 4 0),(9,.fn 309 [.loc 3 0,.loc 4 0]),(58,i64 (p.pts.length:Int)),(59,i64 (i:Int))],[(0,.box 118 [.sl ptE p.pts,pr (p.cl=true)]),(1,.box 50 (ji pen)),(2,.box 30 [.own 5]),(3,.box 72 [.sl ptE p.pts]),(4,.box 3 [i64 (p.pts.length:Int)]),(5,.arr 72 zk 1 (kY p pen++yg p pen i))],6,121,0⟩,λi=>i<=p.pts.length,λi=>p.pts.length - i,0,?_,?_,?_⟩
  ·exact Xe _
  ·exact zC [0,1,2,3,4,5] ⟨rfl,rfl,rfl,rfl,rfl,congrArg (λq=>some (Mem.arr 72 zk 1 q)) (by rw[eb];exact(XE _).symm),trivial⟩
  rintro i hi
  have lb:=zfj p pen;have lj:=zhr p pen i;have ll:(kY p pen++yg p pen i).length<=50000:=by rw[Xi];omega
  have ej:=zfk p pen i;refine⟨λg=>?_,λg=>?_⟩;rotate_left
  ·have g:¬(i:Int) < p.pts.length:=g;have ei:yg p pen i=jj p pen:=by rw[zb3,if_neg oM,show i=p.pts.length by omega]
   refine⟨λo=>?_,λo=>?_⟩;rotate_left
   ·refine z9 ?_;unfold kw;rw[ei,znA oM (λh=>o h.2),XE]
   have o:¬p.cl=true:=o;refine Dr.d<|Ob.o ?_;intro x hx;have hx:=qt (show p.pts[1]? =some x from hx);refine Ob.o ?_;intro y hy;have hy:=qt (show p.pts[0]? =some y from hy);refine zb.t (zAe x y pen)<|Ar.o<|Ob.o ?_;intro u hu;have hu:=qt (show p.pts[((p.pts.length:Int) - 2).toNat]? =some u from hu);rw[show((p.pts.length:Int) - 2).toNat=p.pts.length - 2 by omega]at hu;refine Ar.o<|Ob.o ?_;intro v hv;have hv:=qt (show p.pts[((p.pts.length:Int) - 1).toNat]? =some v from hv)
   rw[show((p.pts.length:Int) - 1).toNat=p.pts.length - 1 by omega]at hv;refine zb.t (zAe u v pen)<|⟨List Pt,zk,[y5 x y pen,y5 u v pen],rfl,Ob.o0 ?_⟩
   refine zb.give [2,5,6] 1 [.own 2,.loc 0 0] [(0,.box 30 [.own 1]),(1,.arr 72 zk 1 (kY p pen++yg p pen i)),(2,.arr 72 zk 1 [y5 x y pen,y5 u v pen])] [(0,.box 30 [.own 3]),(3,.arr 72 zk 1 (uv (kY p pen++yg p pen i) [y5 x y pen,y5 u v pen]))] (.tup []) (zxa (kY p pen++yg p pen i) [y5 x y pen,y5 u v pen] oM (by simp))
      LEs.refl rfl rfl rfl ⟨⟨_,rfl,rfl,rfl⟩,⟨_,rfl,rfl,trivial⟩,⟨_,rfl,rfl,trivial⟩,trivial⟩ rfl ⟨⟨rfl,rfl⟩,⟨rfl,trivial⟩,trivial⟩ ?_
   refine Ob.mk (by kernel_rfl)<|z9 ?_;unfold kw;rw[zw9,ei,zpP h2 o,hx,hy,hu,hv];exact XL ..
  have g:(i:Int) < p.pts.length:=g
  have skip:¬p.cl=true->i=0∨i=p.pts.length - 1->kY p pen++yg p pen i=kY p pen++yg p pen (i+1):=λh k=>by
   rw[ej,show zeR p pen i=[] from if_pos ⟨h,k⟩,XE]
  refine⟨λk=>?_,λk=>Br.mk (λk1=>Ar.fit oM (Br.mk (λk2=>?_) (λk2=>?_))) (λk1=>?_)⟩;rotate_left 2
  ·have k2:¬(i:Int) < (p.pts.length:Int) - 1:=k2;exact Ar.o<|⟨i+1,oM,zC [0,1,2,3,4,5] ⟨rfl,rfl,rfl,rfl,rfl,congrArg (λq=>some (Mem.arr 72 zk 1 q)) (skip k (.inr oM)),trivial⟩,by dsimp only;omega⟩
  ·have k1:¬(0:Int) < (i:Int):=k1;exact Ar.o<|⟨i+1,oM,zC [0,1,2,3,4,5] ⟨rfl,rfl,rfl,rfl,rfl,congrArg (λq=>some (Mem.arr 72 zk 1 q)) (skip k (.inl oM)),trivial⟩,by dsimp only;omega⟩
  all_goals
   have kk:¬(¬p.cl=true/\(i=0∨i=p.pts.length - 1)):=by
    first
    | exact λh=>h.1 k
    | exact λh=>absurd h.2 (by have k1:(0:Int) < (i:Int):=k1;have k2:(i:Int) < (p.pts.length:Int) - 1:=k2;omega)
   refine Dr.d<|Ar.o<|zb.t (zrl p.pts ((i:Int) - 1) ((i+p.pts.length - 1) % p.pts.length) ⟨oM,hp⟩ ⟨oM,oM⟩ (by rw[show(i:Int) - 1+p.pts.length=((i+p.pts.length - 1:Nat):Int) by omega];omega))<|Ob.o ?_;intro x hx;have hx:=qt (show p.pts[i]? =some x from hx);refine Ar.o<|zb.t (zrl p.pts ((i:Int)+1) ((i+1) % p.pts.length) ⟨oM,hp⟩ ⟨oM,oM⟩ (by rw[show(i:Int)+1+p.pts.length=((i+1:Nat):Int)+(p.pts.length:Int) by omega,Int.add_emod_right];omega)) ?_
   refine zb.t (zBl (nth p.pts ((i+p.pts.length - 1) % p.pts.length)) x (nth p.pts ((i+1) % p.pts.length)) pen) ?_;have jl:=zhq (nth p.pts ((i+p.pts.length - 1) % p.pts.length)) x (nth p.pts ((i+1) % p.pts.length)) pen
   refine zb.give [2,5] 1 [.sl zk (jb (nth p.pts ((i+p.pts.length - 1) % p.pts.length)) x (nth p.pts ((i+1) % p.pts.length)) pen),.loc 0 0] [(0,.box 30 [.own 1]),(1,.arr 72 zk 1 (kY p pen++yg p pen i))] [(0,.box 30 [.own 2]),(2,.arr 72 zk 1 (uv (kY p pen++yg p pen i) (jb (nth p.pts ((i+p.pts.length - 1) % p.pts.length)) x (nth p.pts ((i+1) % p.pts.length)) pen)))] (.tup []) (zBx (kY p pen++yg p pen i) (jb (nth p.pts ((i+p.pts.length - 1) % p.pts.length)) x (nth p.pts ((i+1) % p.pts.length)) pen) oM oM)
    LEs.refl rfl rfl rfl ⟨⟨_,rfl,rfl,rfl⟩,⟨_,rfl,rfl,trivial⟩,trivial⟩ rfl ⟨⟨rfl,rfl⟩,⟨rfl,trivial⟩,trivial⟩ ?_
   refine Ob.mk (by kernel_rfl)<|Ar.o<|⟨i+1,oM,zC [0,1,2,3,4,6] ⟨rfl,rfl,rfl,rfl,rfl,congrArg (λq=>some (Mem.arr 72 zk 1 q)) ?_,trivial⟩,by dsimp only;omega⟩;rw[zpK znz,ej,show zeR p pen i=jb (nth p.pts ((i+p.pts.length - 1) % p.pts.length)) (nth p.pts i) (nth p.pts ((i+1) % p.pts.length)) pen from if_neg kk,hx];exact XL ..
theorem zb4{k:Nat}(h:r.length<=k):(kG r).length<=k:=by have:=zq6 r;omega
theorem zxg(a b:Pt)(w:Int):(jZ a b w).length<=16:=by
 unfold jZ
 split
 ·simp
 ·exact zb4 (by simp)
theorem zrp(a:Pt)(w:Int):(vA a w).length<=16:=by
 unfold vA
 split
 ·simp
 ·exact zb4 (by rw[XF];decide)
theorem cap_l(a b:Pt)(w:Int):(zjH a b w).length<=16:=by
 unfold zjH
 split
 ·simp
 ·exact zb4 (by simp)
theorem zBy(a:Pt)(w:Int):(zdy a w).length<=16:=by
 unfold zdy
 split
 ·simp
 ·exact zb4 (by simp)
theorem end_l(a b:Pt)(p:Pen):(y5 a b p).length<=16:=by
 unfold y5
 split
 ·exact cap_l ..
 ·split
  ·exact zrp ..
  ·simp
theorem dot_l(a:Pt)(p:Pen):(za1 a p).length<=16:=by
 unfold za1
 split
 ·exact zBy ..
 ·split
  ·exact zrp ..
  ·simp
theorem zes{k:Nat}(h:r.length<=k)(hq:q∈kQ r):q.length<=k:=by rw[zt2 hq];exact h
theorem zBz{v:Pt}{p:Pen}:∀r∈jb a v b p,r.length<=16:=by
 intro r hr;unfold jb at hr
 split at hr
 ·cases hr
 ·split at hr
  ·exact zes (zrp ..) hr
  ·split at hr
   ·cases hr
   ·refine zes (zb4 ?_) hr
    split <;> simp
theorem zBA{p:Pl}{pen:Pen}:∀r∈kw p pen,r.length<=16:=by
 intro r hr;unfold kw at hr
 rcases Xo.1 hr with hr | hr
 ·rcases Xo.1 hr with hr | hr
  ·rw[vP]at hr
   rcases Xo.1 hr with hr | hr
   ·unfold zdI at hr;obtain⟨i,_,hr⟩:=Qt.1 hr;exact zes (zxg ..) hr
   ·split at hr
    ·exact zes (zxg ..) hr
    ·cases hr
  ·rw[zb3]at hr
   split at hr
   ·cases hr
   ·unfold yg at hr;obtain⟨i,_,hr⟩:=Qt.1 hr;unfold zeR at hr
    split at hr
    ·cases hr
    ·exact zBz r hr
 ·unfold zdC at hr
  split at hr
  ·exact zes (dot_l ..) hr
  ·split at hr
   ·rcases Xo.1 hr with hr | hr <;> exact zes (end_l ..) hr
   ·cases hr
theorem zgp(r:List Pt)(rs:List (List Pt)):qB (r::rs)=r.length+qB rs:=by unfold qB;simp
theorem zy2(a b:List (List Pt)):qB (a++b)=qB a+qB b:=by unfold qB;simp
theorem zsN{k:Nat}:∀{rs:List (List Pt)},(∀r∈rs,r.length<=k)->qB rs<=k*rs.length
 | [],_=>Xe _
 | r::rs,h=>by
  have h1:=h r (.head _);have h2:=zsN λq hq=>h q (.tail _ hq)
  rw[zgp,Xl,Yn];omega
theorem ju(p:Pl):(zu p).pts.length<=p.pts.length:=by
 have h:=zhn p.pts;unfold zu;dsimp only
 split
 ·unfold qi
  split
  ·rw[QD];omega
  ·exact h
 ·exact h
theorem zhs{p:Pl}{pen:Pen}(hp:p.pts.length<=4096):qB (kw (zu p) pen)<=200000/\(kw (zu p) pen).length<=10000:=by
 have h1:=zsN (zBA (p:=zu p) (pen:=pen));have h2:=zrm (zu p) pen;have h3:=ju p;omega
def rgE(c:List (List Pt)×Int):SV:=.tup [.sl zk c.1,i64 c.2]
theorem qM{c:List (List Pt)×Int}{e:Int}(h:c=([],e)):LE (.tup [.val (.slice none 0 0),i64 e]) (rgE c):=by
 rw[h];exact zI zD .refl
theorem zrq(p:Pl)(pen:Pen)(hp:p.pts.length<=4096):CG0 189 [.agg (plE p),.agg (ji pen)] [] (rgE (kD p pen)) []:=by
 refine zc Tryz.func189 ?_
 have es:kD p pen=if ¬kF pen then([],13) else if ¬∀q∈p.pts,zr q then([],6) else if 4096 < p.pts.length then([],5)
  else if ¬vC (kw (zu p) pen) then([],6) else if 4096 < qB (kw (zu p) pen) then([],5) else(kw (zu p) pen,0):=rfl
 refine zb.t (zej pen)<|⟨λk=>?_,λk=>?_⟩
 ·have k:¬kF pen:=k;exact qM (by rw[es,if_pos k])
 have k:kF pen:=Xa.1 k;rw[kS k]at es;refine⟨List Pt,zk,[p.pts],rfl,Ob.o0 ?_⟩;have c1:qB [p.pts]=p.pts.length:=by rw[zgp];rfl
 refine zb.t (zke [p.pts] oM) ?_;have a1:vC [p.pts]↔∀q∈p.pts,zr q:=⟨λh=>h _ (.head _),λh r hr=>by rw[Xr.1 hr];exact h⟩;refine⟨λk2=>?_,λk2=>?_⟩
 ·have k2:¬∀q∈p.pts,zr q:=λh=>k2 (a1.2 h)
  exact qM (by rw[es,if_pos k2])
 have k2:∀q∈p.pts,zr q:=a1.1 (Xa.1 k2);rw[kS k2,if_neg (show ¬4096 < p.pts.length by omega)]at es;intro hl1;refine⟨λk3=>?_,λ_=>?_⟩
 ·have k3:(4096:Int) < p.pts.length:=k3;omega
 have rc:=zhs (pen:=pen) hp;refine Dr.d<|zb.t (zgn p hp)<|zb.t (zy1 (zu p) pen (by have:=ju p;omega))<|Ob.mk (by kernel_rfl)<|zb.t (zke (kw (zu p) pen) oM)<|⟨λk4=>?_,λk4=>?_⟩
 ·have k4:¬vC (kw (zu p) pen):=k4;exact qM (by rw[es,if_pos k4])
 have k4:vC (kw (zu p) pen):=Xa.1 k4;rw[kS k4]at es;refine⟨λk5=>?_,λk5=>?_⟩
 ·have k5:(4096:Int) < (if vC (kw (zu p) pen) then(qB (kw (zu p) pen):Int) else 0):=k5;rw[if_pos k4]at k5;exact qM (by rw[es,if_pos oM])
 have k5:¬(4096:Int) < (if vC (kw (zu p) pen) then(qB (kw (zu p) pen):Int) else 0):=k5;rw[if_pos k4]at k5;rw[if_neg (show ¬4096 < qB (kw (zu p) pen) by omega)]at es;rw[es];exact .refl
theorem zrr(p:Pl)(pen:Pen)(hp:p.pts.length<=4096):CG0 133 [.agg (plE p),.agg (ji pen)] [] (rgE (kD p pen)) []:=by
 refine zc Tryz.func133 ?_
 have es:kD p pen=if ¬kF pen then([],13) else if ¬∀q∈p.pts,zr q then([],6) else if 4096 < p.pts.length then([],5)
  else if ¬vC (kw (zu p) pen) then([],6) else if 4096 < qB (kw (zu p) pen) then([],5) else(kw (zu p) pen,0):=rfl
 refine zb.t (zcz pen)<|⟨λk=>?_,λk=>?_⟩
 ·have k:¬kF pen:=k;exact qM (by rw[es,if_pos k])
 have k:kF pen:=Xa.1 k;rw[kS k]at es;refine zb.t (zpM p.pts)<|⟨λk2=>?_,λk2=>?_⟩
 ·have k2:¬∀q∈p.pts,zr q:=k2;exact qM (by rw[es,if_pos k2])
 have k2:∀q∈p.pts,zr q:=Xa.1 k2;rw[kS k2,if_neg (show ¬4096 < p.pts.length by omega)]at es;intro hl1;refine⟨λk3=>?_,λ_=>?_⟩
 ·have k3:(4096:Int) < p.pts.length:=k3;omega
 have rc:=zhs (pen:=pen) hp;refine Dr.d<|zb.t (ziz p hp)<|zb.t (zui (zu p) pen (by have:=ju p;omega))<|Ob.mk (by kernel_rfl)<|⟨Nat,λi=>⟨[(6,.sl zk (kw (zu p) pen)),(7,i64 (i:Int))],[],0,39,0⟩,λi=>i<=(kw (zu p) pen).length/\vC ((kw (zu p) pen).take i),λi=>(kw (zu p) pen).length - i,0,?_,?_,?_⟩
 ·exact⟨Xe _,λr hr=>by cases hr⟩
 ·exact zE []
 rintro i ⟨h1,h2⟩
 intro hl2;refine⟨λg=>?_,λg=>?_⟩
 ·have g:(i:Int) < (kw (zu p) pen).length:=g;refine Ob.o ?_;intro x hx;have hx:(kw (zu p) pen)[i]? =some x:=hx;refine zb.t (zpM x)<|⟨λk4=>?_,λk4=>?_⟩
  ·have k4:¬vC (kw (zu p) pen):=λh=>k4 (h x (Xd hx))
   exact qM (by rw[es,if_pos k4])
  have k4:=Xa.1 k4;exact Ar.o<|⟨i+1,⟨oM,zcB hx h2 k4⟩,zE [],by dsimp only;omega⟩
 have g:¬(i:Int) < (kw (zu p) pen).length:=g;rw[Xg oM]at h2;rw[kS h2]at es;refine zb.t (zsL (kw (zu p) pen) oM)<|⟨λk5=>?_,λk5=>?_⟩
 ·have k5:(4096:Int) < qB (kw (zu p) pen):=k5;exact qM (by rw[es,if_pos oM])
 have k5:¬(4096:Int) < qB (kw (zu p) pen):=k5;rw[if_neg (show ¬4096 < qB (kw (zu p) pen) by omega)]at es;rw[es];exact .refl
def zaA(l:List Pl)(pen:Pen):List (List Pt):=l.flatMap λp=>(kD p pen).1
variable{l:List Pl}{i:Nat}{x:Pl}
theorem zl4(h:l[i]? =some x):zaA (l.take (i+1)) pen=zaA (l.take i) pen++(kD x pen).1:=by
 unfold zaA;rw[Xm,h,K8];simp
theorem zdK{pen:Pen}:∀{l:List Pl},(∀p∈l,(kD p pen).2=0)->qp l pen=(zaA l pen,0)
 | [],_=>rfl
 | p::r,h=>by
  have ih:=zdK λq hq=>h q (.tail _ hq)
  unfold qp;rw[jc (h p (.head _)),ih];rfl
theorem zcH{pen:Pen}:∀{l:List Pl} {i:Nat} {x:Pl},l[i]? =some x->(∀p∈l.take i,(kD p pen).2=0)->¬(kD x pen).2=0->qp l pen=([],(kD x pen).2)
 | p::r,0,x,h,_,hx=>by
  cases h
  unfold qp;rw[if_pos hx]
 | p::r,i+1,x,h,ha,hx=>by
  have ih:=zcH (l:=r) (i:=i) h (λq hq=>ha q (by rw[Ki];exact .tail _ hq)) hx;unfold qp;rw[jc (ha p (by rw[Ki];exact .head _)),ih];exact if_pos hx
theorem zcI(h:(kD p pen).2=0)(hp:p.pts.length<=4096):vC (kD p pen).1/\qB (kD p pen).1<=4096/\(kD p pen).1.length<=10000:=by
 have rc:=zhs (pen:=pen) hp;unfold kD at h ⊢
 split at h <;> rename_i k1
 ·cases h
 rw[if_neg k1]
 split at h <;> rename_i k2
 ·cases h
 rw[if_neg k2]
 split at h <;> rename_i k3
 ·cases h
 rw[if_neg k3]
 split at h <;> rename_i k4
 ·cases h
 rw[if_neg k4]
 split at h <;> rename_i k5
 ·cases h
 rw[if_neg k5];exact⟨Xa.1 k4,by dsimp only;omega,rc.2⟩
theorem zfl{pen:Pen}:∀{l:List Pl},(∀p∈l,(kD p pen).2=0)->(∀p∈l,p.pts.length<=4096)->vC (zaA l pen)/\qB (zaA l pen)<=4096*l.length/\(zaA l pen).length<=10000*l.length
 | [],_,_=>⟨λr hr=>(by cases hr),Xh 0,Xh 0⟩
 | p::r,h,hl=>by
  obtain⟨i1,i2,i3⟩:=zfl (l:=r) (λq hq=>h q (.tail _ hq)) (λq hq=>hl q (.tail _ hq));obtain⟨f1,f2,f3⟩:=zcI (h p (.head _)) (hl p (.head _));have e:zaA (p::r) pen=(kD p pen).1++zaA r pen:=rfl;rw[e,zy2,Xi,Xl];refine⟨λq hq=>?_,oM,oM⟩
  rcases Xo.1 hq with hq | hq
  ·exact f1 q hq
  ·exact i1 q hq
theorem zgq{P:Pl->Prop}(h:l[i]? =some x)(ha:∀p∈l.take i,P p)(hx:P x):∀p∈l.take (i+1),P p:=by
 intro p hp;rw[Xm,h]at hp
 rcases Xo.1 hp with hp | hp
 ·exact ha p hp
 ·simp at hp;rw[hp];exact hx
theorem zuj(l:List Pl)(pen:Pen)(hl:l.length<=16777216)(hp:∀q∈l,q.pts.length<=4096):CG0 123 [.sl plE l,.agg (ji pen)] [] (rgE (qC l pen)) []:=by
 refine zc Tryz.func123 ?_;have es:qC l pen=if ¬kF pen then([],13) else if (qp l pen).2≠0 then([],(qp l pen).2) else if 4096 < qB (qp l pen).1 then([],5) else((qp l pen).1,0):=rfl
 refine zb.t (zej pen)<|⟨λk=>?_,λk=>?_⟩
 ·have k:¬kF pen:=k;exact qM (by rw[es,if_pos k])
 have k:kF pen:=Xa.1 k;rw[kS k]at es;intro hl1;refine⟨Nat,λi=>⟨[(3,.loc 0 0),(6,.own 1),(16,.sl plE l),(17,i64 (l.length:Int)),(18,i64 (i:Int))],[(0,.box 50 (ji pen)),(1,.arr 72 zk 1 (zaA (l.take i) pen))],2,43,0⟩,λi=>i<=l.length/\∀q∈l.take i,(kD q pen).2=0,λi=>l.length - i,0,?_,?_,?_⟩
 ·exact⟨Xe _,λq hq=>by cases hq⟩
 ·exact zE [(0,some 0),(1,none)]
 rintro i ⟨h1,h2⟩
 obtain⟨f1,f2,f3⟩:=zfl h2 λq hq=>hp q (XC hq)
 rw[Xk]at f2 f3;refine⟨λg=>?_,λg=>?_⟩
 ·have g:(i:Int) < l.length:=g;refine Ob.o ?_;intro x hx;have hx:l[i]? =some x:=hx;have hpx:=hp x (Xd hx);refine zb.t (zrq x pen hpx)<|⟨λz=>?_,λz=>?_⟩
  ·have z:¬(kD x pen).2=0:=z;refine qM ?_;rw[es,zcH hx h2 z];exact if_pos z
  have z:(kD x pen).2=0:=Xa.1 z;obtain⟨s1,s2,s3⟩:=zcI z hpx;refine⟨(kD x pen).1,rfl,Ob.mk ⟨(by show _*(24:Int)<=_;omega),oM,dC,λ_ _=>rfl⟩ ?_⟩;exact Ar.o<|⟨i+1,⟨oM,zgq hx h2 z⟩,zC [0,3] ⟨rfl,congrArg (λq=>some (Mem.arr 72 zk 1 q)) (zl4 hx).symm,trivial⟩,by dsimp only;omega⟩
 have g:¬(i:Int) < l.length:=g;have et:l.take i=l:=Xg oM;rw[et]at h2 f1;rw[zdK h2,jc rfl]at es;have et2:zaA (l.take i) pen=zaA l pen:=by rw[et]
 refine zb.t (zke (zaA (l.take i) pen) oM)<|⟨λk5=>?_,λk5=>?_⟩
 ·have k5:(4096:Int) < (if vC (zaA (l.take i) pen) then(qB (zaA (l.take i) pen):Int) else 0):=k5;rw[et,if_pos f1]at k5;exact qM (by rw[es,if_pos (by dsimp only;omega)])
 have k5:¬(4096:Int) < (if vC (zaA (l.take i) pen) then(qB (zaA (l.take i) pen):Int) else 0):=k5;rw[et,if_pos f1]at k5;rw[if_neg (by dsimp only;omega)]at es;rw[es];exact zI (z9 et2) .refl
theorem zuk(l:List Pl)(pen:Pen)(hl:l.length<=16777216)(hp:∀q∈l,q.pts.length<=4096):CG0 63 [.sl plE l,.agg (ji pen)] [] (rgE (qC l pen)) []:=by
 refine zc Tryz.func63 ?_;have es:qC l pen=if ¬kF pen then([],13) else if (qp l pen).2≠0 then([],(qp l pen).2) else if 4096 < qB (qp l pen).1 then([],5) else((qp l pen).1,0):=rfl
 refine zb.t (zcz pen)<|⟨λk=>?_,λk=>?_⟩
 ·have k:¬kF pen:=k;exact qM (by rw[es,if_pos k])
 have k:kF pen:=Xa.1 k;rw[kS k]at es;refine⟨List Pt,zk,[],rfl,Ob.o2 ?_⟩;refine⟨Nat,λi=>⟨[(0,.sl plE l),(3,.loc 0 0),(6,.own 1),(7,i64 (i:Int))],[(0,.box 50 (ji pen)),(1,.arr 72 zk 1 (zaA (l.take i) pen))],2,50,0⟩,λi=>i<=l.length/\∀q∈l.take i,(kD q pen).2=0,λi=>l.length - i,0,?_,?_,?_⟩
 ·exact⟨Xe _,λq hq=>by cases hq⟩
 ·exact zf [0,1]
 rintro i ⟨h1,h2⟩
 obtain⟨f1,f2,f3⟩:=zfl h2 λq hq=>hp q (XC hq)
 rw[Xk]at f2 f3;intro hl1;refine⟨λg=>?_,λg=>?_⟩
 ·have g:(i:Int) < l.length:=g;refine Dr.d<|Ob.o ?_;intro x hx;have hx:l[i]? =some x:=hx;have hpx:=hp x (Xd hx);refine zb.t (zrr x pen hpx)<|Ob.mk (by kernel_rfl)<|⟨λz=>?_,λz=>?_⟩
  ·have z:¬(kD x pen).2=0:=z;refine qM ?_;rw[es,zcH hx h2 z];exact if_pos z
  have z:(kD x pen).2=0:=Xa.1 z;obtain⟨s1,s2,s3⟩:=zcI z hpx;refine⟨Nat,λj=>⟨[(0,.sl plE l),(3,.loc 0 0),(6,.own 1),(7,i64 (i:Int)),(8,.sl zk (kD x pen).1),(10,i64 (j:Int))],[(0,.box 50 (ji pen)),(1,.arr 72 zk 1 (zaA (l.take i) pen++(kD x pen).1.take j))],2,50,0⟩,λj=>j<=(kD x pen).1.length,λj=>(kD x pen).1.length - j,0,?_,?_,?_⟩
  ·exact Xe _
  ·exact zC [0,1] ⟨rfl,congrArg (λq=>some (Mem.arr 72 zk 1 q)) (XE _).symm,trivial⟩
  rintro j hj
  intro hl3;refine⟨λk2=>?_,λk2=>?_⟩
  ·have k2:(j:Int) < (kD x pen).1.length:=k2;refine Ob.o ?_;intro r hr;have hr:(kD x pen).1[j]? =some r:=hr;refine⟨List Pt,zk,[r],rfl,Ob.o0 ?_⟩;refine⟨[r],rfl,Ob.o24 ?_⟩;exact Ar.o<|⟨j+1,oM,zC [0,3] ⟨rfl,congrArg (λq=>some (Mem.arr 72 zk 1 q)) (by rw[Xm,hr];exact XL ..),trivial⟩,by dsimp only;omega⟩
  have k2:¬(j:Int) < (kD x pen).1.length:=k2;exact Ar.o<|⟨i+1,⟨oM,zgq hx h2 z⟩,zC [0,1] ⟨rfl,congrArg (λq=>some (Mem.arr 72 zk 1 q)) (by rw[show(kD x pen).1.take j=(kD x pen).1 from Xg oM,zl4 hx]),trivial⟩,by dsimp only;omega⟩
 have g:¬(i:Int) < l.length:=g;have et:l.take i=l:=Xg oM;rw[et]at h2;rw[zdK h2,jc rfl]at es;have et2:zaA (l.take i) pen=zaA l pen:=by rw[et]
 refine zb.t (zsL (zaA (l.take i) pen) oM)<|⟨λk5=>?_,λk5=>?_⟩
 ·have k5:(4096:Int) < qB (zaA (l.take i) pen):=k5;rw[et]at k5;exact qM (by rw[es,if_pos (by dsimp only;omega)])
 have k5:¬(4096:Int) < qB (zaA (l.take i) pen):=k5;rw[et]at k5;rw[if_neg (by dsimp only;omega)]at es;rw[es];exact zI (z9 et2) .refl
end Go.Gs
