/- Outlines: rings under an affine map, the second text. -/
import Derived.Test.YtjgadnaphffpkaaGreatDoorMA
import Derived.Test.YtjgadnaphffpkaaGreatDoorMBB
import Derived.Test.YtjgadnaphffpkaaGreatDoorMAP
import Derived.Test.YtjgadnaphffpkaaGreatDoorMAZ
import Derived.Test.YtjgadnaphffpkaaGreatDoorMAQ
import Derived.Test.YtjgadnaphffpkaaGreatDoorMBA
set_option maxRecDepth 100000
set_option maxHeartbeats 8000000
set_option linter.all false
namespace Go.Gs
open Go.Proofs
def zgx(t:AF):List Pt->Int
 | []=>0
 | p::r=>if (kI t p).2≠0 then(kI t p).2 else zgx t r
def y6(t:AF)(l:List Pt):List Pt:=l.map λp=>(kI t p).1
def zhy(t:AF):List (List Pt)->Int
 | []=>0
 | r::s=>if zgx t r≠0 then zgx t r else zhy t s
def uO(rs:List (List Pt))(t:AF):List (List Pt)×Int:=
 if ¬ur rs then([],12) else if zhy t rs≠0 then([],zhy t rs) else(rs.map (y6 t),0)
theorem zgy{t:AF}:∀{l:List Pt},(∀p∈l,(kI t p).2=0)->zgx t l=0
 | [],_=>rfl
 | p::r,h=>by unfold zgx;rw[jc (h p (.head _))];exact zgy λq hq=>h q (.tail _ hq)
theorem zgz{t:AF}:∀{l:List Pt} {i:Nat} {x:Pt},l[i]? =some x->(∀p∈l.take i,(kI t p).2=0)->¬(kI t x).2=0->zgx t l=(kI t x).2
 | p::r,0,x,h,_,hx=>by cases h;unfold zgx;rw[if_pos hx]
 | p::r,i+1,x,h,ha,hx=>by
  unfold zgx;rw[jc (ha p (by rw[Ki];exact .head _))];exact zgz (l:=r) (i:=i) h (λq hq=>ha q (by rw[Ki];exact .tail _ hq)) hx
theorem znI{t:AF}:∀{l:List (List Pt)},(∀r∈l,zgx t r=0)->zhy t l=0
 | [],_=>rfl
 | p::r,h=>by unfold zhy;rw[jc (h p (.head _))];exact znI λq hq=>h q (.tail _ hq)
theorem zgA{t:AF}:∀{l:List (List Pt)} {i:Nat} {x:List Pt},l[i]? =some x->(∀r∈l.take i,zgx t r=0)->¬zgx t x=0->zhy t l=zgx t x
 | p::r,0,x,h,_,hx=>by cases h;unfold zhy;rw[if_pos hx]
 | p::r,i+1,x,h,ha,hx=>by
  unfold zhy;rw[jc (ha p (by rw[Ki];exact .head _))];exact zgA (l:=r) (i:=i) h (λq hq=>ha q (by rw[Ki];exact .tail _ hq)) hx
variable{i:Nat}
theorem yx{α:Type}{P:α->Prop}{l:List α}{x:α}(h:l[i]? =some x)(ha:∀p∈l.take i,P p)(hx:P x):∀p∈l.take (i+1),P p:=by
 intro p hp;rw[Xm,h]at hp
 rcases Xo.1 hp with hp | hp
 ·exact ha p hp
 ·simp at hp;rw[hp];exact hx
def yM(l:List (List Pt)):List (List SV):=l.map zk
theorem vf(l:List (List Pt)):(yM l).length=l.length:=by unfold yM;simp
theorem zaf{tb:List (Nat×Option Nat)}{l m:List (List Pt)}(e:l=m):
  (yM m).length=(yM l).length/\∀(j:Nat) x,(yM l)[j]? =some x->∃x',(yM m)[j]? =some x'/\ren.rens tb x=some x':=by
 subst e;refine⟨rfl,λj x hx=>⟨x,hx,?_⟩⟩;unfold yM at hx;rw[XA]at hx
 cases hy:l[j]? with
 | none=>rw[hy]at hx;cases hx
 | some y=>rw[hy]at hx;cases hx;rfl
theorem zgB{L:List (List Pt)}{q:List Pt}{a:Nat}:∀(i j:Nat) (x':List SV) (s':SV),(yM (L++[q]))[i]? =some x'->x'[j]? =some s'->∃(x:List SV) (s:SV),(yM L++[[.own a]])[i]? =some x/\x[j]? =some s/\(s'=s∨(s=.own a/\s'=.sl ptE q)):=by
 intro i j x' s' hx hs;have e:yM (L++[q])=yM L++[zk q]:=by unfold yM;rw[XI];rfl
 rw[e]at hx;generalize yM L=R at*
 rcases Qm i R.length with h | h | h
 ·rw[XD h]at hx;exact⟨x',s',by rw[XD h];exact hx,hs,.inl rfl⟩
 ·subst h;rw[K9]at hx
  cases hx
  match j,hs with
  | 0,hs=>cases hs;exact⟨[.own a],.own a,K9 ..,rfl,.inr ⟨rfl,rfl⟩⟩
  | j+1,hs=>cases hs
 ·rw[XB (by simp;omega)]at hx;cases hx
def tS(rs:List (List Pt))(t:AF):Nat->St
 | 0=>⟨[(0,.sl zk rs),(3,.loc 0 0),(6,.val (.slice none 0 0)),(7,i64 ((0:Nat):Int))],[(0,.box 45 (afE t))],1,54,0⟩
 | i+1=>⟨[(0,.sl zk rs),(3,.loc 0 0),(6,.own 1),(7,i64 ((i+1:Nat):Int))],[(0,.box 45 (afE t)),(1,.garr 72 1 (yM ((rs.take (i+1)).map (y6 t))))],2,54,0⟩
theorem zzm(rs:List (List Pt))(t:AF)(ht:t.le 100000)(hl:rs.length<=100000):CG0 64 [.sl zk rs,.agg (afE t)] [] (.tup [.own 0,i64 (uO rs t).2]) [(0,.arr 72 zk 1 (uO rs t).1)]:=by
 refine zeE tok mix Tryz.func64 rfl rfl rfl ?_
 have bad:∀{e:Int},uO rs t=([],e)->zaO none (.tup [.val (.slice none 0 0),i64 e]) (.tup [.own 0,i64 (uO rs t).2])/\(uO rs t).1=[]:=λ{e} h=>
  ⟨.tup _ _ rfl (zeH.ix (.cons (.nil rfl) (.cons (.le _ _ (zi (by rw[h])) rfl) .nil))).2,by rw[h]⟩
 refine zb.t (zo8 rs)<|⟨λk=>?_,λk=>?_⟩
 ·have k:¬ur rs:=k;have hb:=bad (e:=12) (by unfold uO;rw[if_pos k]);exact⟨_,.refl,none,hb.1,hb.2⟩
 have k:ur rs:=Xa.1 k;have es:uO rs t=if zhy t rs≠0 then([],zhy t rs) else(rs.map (y6 t),0):=by unfold uO;rw[kS k]
 have hc:qB rs<=4096:=by have:=k.1;omega
 refine⟨Nat,tS rs t,λi=>i<=rs.length/\∀r∈rs.take i,zgx t r=0,λi=>rs.length - i,0,⟨Xe _,λr hr=>by cases hr⟩,?_,?_⟩
 ·exact zf [0]
 rintro(_ | i) ⟨h1,h2⟩
 ·intro hl1;refine⟨λg=>?_,λg=>?_⟩;rotate_left
  ·have g:¬(((0:Nat):Int)) < rs.length:=g;have e0:rs=[]:=Xn oM;have hb:=bad (e:=0) (by rw[es,e0];rfl);exact⟨_,.refl,none,hb.1,hb.2⟩
  have g:((0:Nat):Int) < rs.length:=g;obtain⟨x,hx⟩:∃x,rs[0]? =some x:=⟨_,Xb oM⟩;have hxl:=Xz (zb6 (Xd hx)) hc;have same:∀{y:List Pt},rs[((0:Nat):Int).toNat]? =some y->y=x:=λh=>Xj ((show rs[0]? =some _ from h).symm.trans hx)
  refine⟨Nat,λj=>⟨[(0,.sl zk rs),(3,.loc 0 0),(6,.val (.slice none 0 0)),(7,i64 ((0:Nat):Int)),(8,.own 1),(9,i64 (j:Int))],[(0,.box 45 (afE t)),(1,.arr 35 ptE 2 (y6 t (x.take j)))],2,54,0⟩,λj=>j<=x.length/\∀p∈x.take j,(kI t p).2=0,λj=>x.length - j,0,⟨Xe _,λp hp=>by cases hp⟩,?_,?_⟩
  ·exact zE [(0,some 0),(1,none)]
  rintro j ⟨j1,j2⟩
  have ml:(y6 t (x.take j)).length<=4096:=by unfold y6;rw[XF,Xk];omega
  refine Ob.o ?_;intro y hy;rw[same hy];intro hl2;refine⟨λq=>?_,λq=>?_⟩
  ·have q:(j:Int) < x.length:=q;obtain⟨z,hz⟩:∃z,x[j]? =some z:=⟨_,Xb oM⟩;refine Dr.d<|Ob.o ?_;intro y' hy';rw[same hy'];refine Ob.o ?_;intro z' hz';have ez:z'=z:=Xj ((show x[j]? =some z' from hz').symm.trans hz);rw[ez];refine zb.t (zb5 t z ht)<|Ob.mk (by kernel_rfl)<|⟨λe=>?_,λe=>?_⟩
   ·have e:¬(kI t z).2=0:=e;have eL:=zgz hz j2 e;have eR:=zgA hx h2 (by rw[eL];exact e);have hb:=bad (e:=(kI t z).2) (by rw[es,eR,eL,if_pos e]);exact⟨_,.refl,none,hb.1,hb.2⟩
   have e:(kI t z).2=0:=Xa.1 e;refine⟨Pt,ptE,[(kI t z).1],rfl,Ob.o0 ?_⟩;refine⟨[(kI t z).1],rfl,Ob.o3 ?_⟩;exact Ar.o<|⟨j+1,⟨oM,yx hz j2 e⟩,zC [0,4] ⟨rfl,congrArg (λq=>some (Mem.arr 35 ptE 2 q)) (by unfold y6;rw[Xm,hz,XI];rfl),trivial⟩,by dsimp only;omega⟩
  have q:¬(j:Int) < x.length:=q;have etx:x.take j=x:=Xg oM;rw[etx]at j2;refine⟨[[.own 1]],rfl,Ob.o8 ?_⟩;refine Ob.o27<|Ar.o<|⟨0+1,⟨oM,yx hx h2 (zgy j2)⟩,(zco (sz0:=1) (T0:=72) 1 3 (enc:=ptE) (ys:=y6 t (x.take j)) rfl rfl (xs':=yM ([]++[y6 t (x.take j)])) (by rfl) (λz hz=>?_) zgB).trans (zC [0,3] ⟨rfl,⟨_,rfl,zaf ?_⟩,trivial⟩),by dsimp only;omega⟩
  ·unfold yM at hz;obtain⟨b,_,rfl⟩:=XY.1 hz;rfl
  ·rw[etx];rw[Xm,hx];rfl
 ·intro hl1;refine⟨λg=>?_,λg=>?_⟩;rotate_left
  ·have g:¬((i+1:Nat):Int) < rs.length:=g;have et:rs.take (i+1)=rs:=Xg oM;rw[et]at h2;have er:uO rs t=(rs.map (y6 t),0):=by rw[es,znI h2];rfl
   refine⟨_,zfQ 1 zk ((rs.take (i+1)).map (y6 t)) rfl (λ_ _=>rfl),some 1,.tup _ _ rfl (zeH.ix (.cons (.own 1 rfl) (.cons (.le _ _ (zi (by rw[er])) rfl) .nil))).2,congrArg (λq=>some (Mem.arr 72 zk 1 q)) (by rw[er,et]),λ_ _=>rfl⟩
  have g:(((i+1):Nat):Int) < rs.length:=g;obtain⟨x,hx⟩:∃x,rs[(i+1)]? =some x:=⟨_,Xb oM⟩;have hxl:=Xz (zb6 (Xd hx)) hc;have same:∀{y:List Pt},rs[(((i+1):Nat):Int).toNat]? =some y->y=x:=λh=>Xj ((show rs[(i+1)]? =some _ from h).symm.trans hx)
  refine⟨Nat,λj=>⟨[(0,.sl zk rs),(3,.loc 0 0),(6,.own 1),(7,i64 (((i+1):Nat):Int)),(8,.own 2),(9,i64 (j:Int))],[(0,.box 45 (afE t)),(1,.garr 72 1 (yM ((rs.take (i+1)).map (y6 t)))),(2,.arr 35 ptE 2 (y6 t (x.take j)))],3,54,0⟩,λj=>j<=x.length/\∀p∈x.take j,(kI t p).2=0,λj=>x.length - j,0,⟨Xe _,λp hp=>by cases hp⟩,?_,?_⟩
  ·exact zz1 [(0,some 0),(1,some 1),(2,none)] ⟨rfl,⟨_,rfl,zaf rfl⟩,rfl,trivial⟩
  rintro j ⟨j1,j2⟩
  have ml:(y6 t (x.take j)).length<=4096:=by unfold y6;rw[XF,Xk];omega
  refine Ob.o ?_;intro y hy;rw[same hy];intro hl2;refine⟨λq=>?_,λq=>?_⟩
  ·have q:(j:Int) < x.length:=q;obtain⟨z,hz⟩:∃z,x[j]? =some z:=⟨_,Xb oM⟩;refine Dr.d<|Ob.o ?_;intro y' hy';rw[same hy'];refine Ob.o ?_;intro z' hz';have ez:z'=z:=Xj ((show x[j]? =some z' from hz').symm.trans hz);rw[ez];refine zb.t (zb5 t z ht)<|Ob.mk (by kernel_rfl)<|⟨λe=>?_,λe=>?_⟩
   ·have e:¬(kI t z).2=0:=e;have eL:=zgz hz j2 e;have eR:=zgA hx h2 (by rw[eL];exact e);have hb:=bad (e:=(kI t z).2) (by rw[es,eR,eL,if_pos e]);exact⟨_,.refl,none,hb.1,hb.2⟩
   have e:(kI t z).2=0:=Xa.1 e;refine⟨Pt,ptE,[(kI t z).1],rfl,Ob.o0 ?_⟩;refine⟨[(kI t z).1],rfl,Ob.o3 ?_⟩;exact Ar.o<|⟨j+1,⟨oM,yx hz j2 e⟩,zC [0,1,5] ⟨rfl,⟨_,rfl,zaf rfl⟩,congrArg (λq=>some (Mem.arr 35 ptE 2 q)) (by unfold y6;rw[Xm,hz,XI];rfl),trivial⟩,by dsimp only;omega⟩
  have q:¬(j:Int) < x.length:=q;have etx:x.take j=x:=Xg oM;rw[etx]at j2;refine⟨[[.own 2]],rfl,Ob.o8 ?_⟩;refine Ob.mk ⟨by show _*(24:Int)<=_;rw[vf,XF,Xk];simp only[Xl,Xs];omega,by rw[vf,XF,Xk];simp only[Xl,Xs];omega,dC⟩<|Ar.o ?_
  refine⟨(i+1)+1,⟨oM,yx hx h2 (zgy j2)⟩,(zco (sz0:=1) (T0:=72) 2 4 (enc:=ptE) (ys:=y6 t (x.take j)) rfl rfl (xs':=yM ((rs.take (i+1)).map (y6 t)++[y6 t (x.take j)])) (by rw[vf,Xi,Xi,vf];rfl) (λz hz=>?_) zgB).trans (zC [0,4] ⟨rfl,⟨_,rfl,zaf ?_⟩,trivial⟩),by dsimp only;omega⟩
  ·unfold yM at hz;obtain⟨b,_,rfl⟩:=XY.1 hz;rfl
  ·rw[etx];rw[Xm (l:=rs) (i:=i+1),hx,XI];rfl
theorem zBG(rs:List (List Pt))(t:AF)(ht:t.le 100000)(hl:rs.length<=100000):CG0 64 [.sl zk rs,.agg (afE t)] [] (rgE (uO rs t)) []:=(zzm rs t ht hl).plain rfl
def uj(l:List AF):AF:=l.foldl beh idA
theorem zfr{l:List AF}{x:AF}(h:l[i]? =some x):uj (l.take (i+1))=beh (uj (l.take i)) x:=by
 unfold uj;rw[Xm,h,KP];rfl
def znJ(l:List AF):Prop:=(∀t∈l,t.ok)/\∀i,i < l.length->(uj (l.take (i+1))).ok
instance (l:List AF):Decidable (znJ l):=inferInstanceAs (Decidable (_/\∀i,i < l.length->_))
def vt(l:List AF):AF×Int:=if znJ l then(uj l,0) else(qn,5)
theorem zzn:idA.nrm=idA:=by unfold idA AF.nrm afQ;simp only[z6]
theorem zkn{l:List AF}:∀{i:Nat},i<=l.length->(∀k,k < i->(uj (l.take (k+1))).ok)->(uj (l.take i)).le 8
 | 0,_,_=>zm7.up dC
 | i+1,hi,h=>by
  have hk:=h i oM;have hx:l[i]? =some l[i]:=Xb oM;rw[zfr hx]at hk ⊢;exact ztQ hk
theorem zuC(l:List AF):(uj l).nrm=uj l:=by
 rcases J4 l with rfl | ⟨q,x,rfl⟩
 ·exact zzn
 ·unfold uj;rw[List.concat_eq_append,KP];exact zm8 _ _
theorem zko(l:List AF)(hl:∀t∈l,t.le 100):CG0 41 [.sl afE l] [] (.tup [.agg (afE (vt l).1),i64 (vt l).2]) []:=by
 have bad:¬znJ l->LE (.tup [.agg yU,i64 5]) (.tup [.agg (afE (vt l).1),i64 (vt l).2]):=λh=>by
  rw[show vt l=(qn,5) from if_neg h];exact zI zaI .refl
 refine zc Tryz.func41 ?_;refine zb.t zq1 ?_;intro hl0
 refine⟨Nat,λi=>⟨[(12,i64 (i:Int)),(11,i64 (l.length:Int)),(10,.sl afE l),(4,.loc 1 0),(2,.loc 0 0),(0,.sl afE l)],[(1,.box 45 (afE idA)),(0,.box 45 yU)],2,37,0⟩,
  λi=>i<=l.length/\∀t∈l.take i,t.ok,λi=>l.length - i,0,⟨Xe _,λt ht=>by cases ht⟩,?_,?_⟩
 ·exact zf [0,1]
 rintro i ⟨h1,h2⟩
 refine⟨λg=>?_,λg=>?_⟩
 ·have g:(i:Int) < l.length:=g;refine Ob.o ?_;intro x hx;have hx:l[i]? =some x:=hx;have hm:=Xd hx;refine zb.t (zcu x ((hl x hm).up dC))<|⟨λh=>bad λk=>h (k.1 x hm),λh=>?_⟩;exact Ar.o<|⟨i+1,⟨oM,yx hx h2 (Xa.1 h)⟩,zf [0,1],by dsimp only;omega⟩
 have g:¬(i:Int) < l.length:=g;rw[Xg oM]at h2;intro hl1
 refine⟨Nat,λi=>⟨[(23,i64 (i:Int)),(22,i64 (l.length:Int)),(21,.sl afE l),(4,.loc 1 0),(2,.loc 0 0)],[(1,.box 45 (afE (uj (l.take i)))),(0,.box 45 yU)],2,37,0⟩,
  λi=>i<=l.length/\∀k,k < i->(uj (l.take (k+1))).ok,λi=>l.length - i,0,⟨Xe _,λk h=>by omega⟩,?_,?_⟩
 ·exact zf [0,1]
 rintro j ⟨j1,j2⟩
 have lj:=zkn j1 j2;refine⟨λg=>?_,λg=>?_⟩
 ·have g:(j:Int) < l.length:=g;refine Ob.o ?_;intro x hx;have hx:l[j]? =some x:=hx;have hm:=Xd hx;have e:=zfr hx;refine zb.t (zv4 (uj (l.take j)) x (lj.up dC) ((hl x hm).up dC))<|zb.t (zcu (beh (uj (l.take j)) x) ((zv5 (n:=100) (lj.up dC) (hl x hm)).up dC))<|⟨λh=>bad λk=>h (by rw[← e];exact k.2 j oM),λh=>?_⟩;have h:(beh (uj (l.take j)) x).ok:=Xa.1 h;refine Ar.o ?_
  refine⟨j+1,⟨oM,λk hk=>?_⟩,zC [0,1] ⟨congrArg (λq=>some (Mem.box 45 (afE q))) e.symm,rfl,trivial⟩,by dsimp only;omega⟩
  by_cases c:k=j
  ·rw[c,e];exact h
  ·exact j2 k oM
 have g:¬(j:Int) < l.length:=g;have et:l.take j=l:=Xg oM;refine zb.t (zhR (uj (l.take j)) (lj.up dC)) ?_;rw[zuC];have ef:vt l=(uj (l.take j),0):=by rw[et];exact if_pos ⟨h2,λk hk=>j2 k oM⟩
 rw[ef];exact zI .refl .refl
theorem znK(l:List AF)(hl:∀t∈l,t.le 100):CG0 56 [.sl afE l] [] (.tup [.agg (afE (vt l).1),i64 (vt l).2]) []:=by
 have bad:¬znJ l->LE (.tup [.agg yU,i64 5]) (.tup [.agg (afE (vt l).1),i64 (vt l).2]):=λh=>by
  rw[show vt l=(qn,5) from if_neg h];exact zI zaI .refl
 refine zc Tryz.func56 ?_;refine zb.t zf1 ?_
 refine⟨Nat,λi=>⟨[(5,i64 (i:Int)),(4,.loc 1 0),(2,.loc 0 0),(0,.sl afE l)],[(1,.box 45 (afE (uj (l.take i)))),(0,.box 45 yU)],2,31,0⟩,
  λi=>i<=l.length/\(∀t∈l.take i,t.ok)/\∀k,k < i->(uj (l.take (k+1))).ok,λi=>l.length - i,0,⟨Xe _,(λt ht=>by cases ht),λk h=>by omega⟩,?_,?_⟩
 ·exact zf [0,1]
 rintro j ⟨j1,j0,j2⟩
 have lj:=zkn j1 j2;intro hl1;refine⟨λg=>?_,λg=>?_⟩
 ·have g:(j:Int) < l.length:=g;refine Ob.o ?_;intro x hx;have hx:l[j]? =some x:=hx;have hm:=Xd hx;have e:=zfr hx;refine zb.t (zbV x ((hl x hm).up dC))<|⟨λh=>bad λk=>h (k.1 x hm),λh=>?_⟩;refine Dr.k<|Ob.o ?_;intro y hy;have ey:y=x:=Xj ((show l[j]? =some y from hy).symm.trans hx);rw[ey];refine zb.t (zoY (uj (l.take j)) x (lj.up dC) ((hl x hm).up dC))<|zb.t (zbV (beh (uj (l.take j)) x) ((zv5 (n:=100) (lj.up dC) (hl x hm)).up dC)) ?_
  refine⟨λh=>bad λk=>h (by rw[← e];exact k.2 j oM),λh2=>?_⟩;have h2:(beh (uj (l.take j)) x).ok:=Xa.1 h2;refine Ar.o<|⟨j+1,⟨oM,yx hx j0 (Xa.1 h),λk hk=>?_⟩,zC [0,1] ⟨congrArg (λq=>some (Mem.box 45 (afE q))) e.symm,rfl,trivial⟩,by dsimp only;omega⟩
  by_cases c:k=j
  ·rw[c,e];exact h2
  ·exact j2 k oM
 have g:¬(j:Int) < l.length:=g;have et:l.take j=l:=Xg oM;rw[et]at j0;have ef:vt l=(uj (l.take j),0):=by rw[et];exact if_pos ⟨j0,λk hk=>j2 k oM⟩
 rw[ef];exact zI .refl .refl
structure Nd where
 id:Int
 k:Int
 d:Int
 t:AF
 clip:List Sg
 cr:Int
 op:Int
 mode:Int
 iso:Bool
 ko:Bool
 path:List Sg
 rule:Int
 fill:List Pnt
 pen:Pen
 strk:List Pnt
 im:Img
 smp:Int
def ndE(n:Nd):List SV:=
 i64 n.id::i64 n.k::i64 n.d::(afE n.t++(.sl sgE n.clip::i64 n.cr::u8 n.op::i64 n.mode::pr (n.iso=true)::pr (n.ko=true)::.sl sgE n.path::i64 n.rule::.sl u5 n.fill::
  (ji n.pen++(.sl u5 n.strk::(zkp n.im++[i64 n.smp])))))
structure Sc where
 w:Int
 h:Int
 bg:Pix
 ns:List Nd
def scE(s:Sc):List SV:=[i64 s.w,i64 s.h,u8 s.bg.r,u8 s.bg.g,u8 s.bg.b,u8 s.bg.a,.sl ndE s.ns]
def zb7(n:Nd):Prop:=n.op=0/\n.mode=0/\n.iso=false/\n.ko=false
instance (n:Nd):Decidable (zb7 n):=inferInstanceAs (Decidable (_/\_))
def ul(p:Pen):Prop:=p.w=0/\p.j=0/\p.c=0/\p.m=0/\p.d=[]/\p.ph=0
instance (p:Pen):Decidable (ul p):=inferInstanceAs (Decidable (_/\_))
def zcW(n:Nd):Prop:=n.path.length=0/\n.rule=0/\n.fill.length=0/\n.strk.length=0
instance (n:Nd):Decidable (zcW n):=inferInstanceAs (Decidable (_/\_))
def zb8(n:Nd):Prop:=n.im.w=0/\n.im.h=0/\n.im.px.length=0/\n.smp=0
instance (n:Nd):Decidable (zb8 n):=inferInstanceAs (Decidable (_/\_))
def zcM(r:Int):Prop:=r=1∨r=2
instance (r:Int):Decidable (zcM r):=inferInstanceAs (Decidable (_∨_))
def u6(n:Nd):Prop:=(n.clip.length=0/\n.cr=0)∨(0 < n.clip.length/\zcM n.cr)
instance (n:Nd):Decidable (u6 n):=inferInstanceAs (Decidable (_∨_))
def zgI(n:Nd):Prop:=u6 n/\(if n.k=1 then(zcW n/\ul n.pen)/\zb8 n else if n.k=2 then zb7 n/\zb8 n else zb7 n/\zcW n/\ul n.pen)
instance (n:Nd):Decidable (zgI n):=by unfold zgI;infer_instance
def vw(n:Nd):Int:=
 if ¬jn n.path then 10 else if ¬zcM n.rule then 2 else if 1 < n.fill.length∨1 < n.strk.length then 5 else if 0 < n.strk.length/\¬kF n.pen then 13
 else if n.strk.length=0/\¬ul n.pen then 17 else if (¬∀p∈n.fill,vv p)∨¬∀p∈n.strk,vv p then 16 else 0
def y7(n:Nd):Int:=
 if n.k < 1∨3 < n.k then 2 else if n.id < 1∨1073741824 < n.id∨n.d < 0∨8<=n.d then 6 else if ¬n.t.ok then 5 else if yr n.t=0 then 9 else if ¬jn n.clip then 10
 else if ¬zgI n then 17 else if n.k=1 then(if ¬(1<=n.mode/\n.mode<=13) then 2 else 0) else if n.k=2 then vw n
 else if ¬zeS n.im then 16 else if n.smp≠1/\n.smp≠2 then 2 else 0
def jF(l:List Nd)(i:Nat)(n:Nd):Prop:=match l[i - 1]? with
 | some p=>if i=0 then n.d=0 else(p.k=1/\n.d=p.d+1)∨n.d<=p.d
 | none=>n.d=0
instance (l:List Nd) (i:Nat) (n:Nd):Decidable (jF l i n):=by unfold jF;split <;> infer_instance
def zgJ(l:List Nd)(i:Nat)(n:Nd):Int:=
 if y7 n≠0 then y7 n else if n.id∈(l.take i).map Nd.id then 7 else if ¬jF l i n then 17 else 0
def vD(ds:List Int)(d:Int):Nat->Int
 | 0=> -1
 | k+1=>if ds[k]? =some d then k else vD ds d k
def vi(ds:List Int)(i:Nat):Int:=vD ds (ds.getD i 0 - 1) i
theorem zgK(ds:List Int)(d:Int):∀k,-1<=vD ds d k/\vD ds d k < k/\(0<=vD ds d k->ds[(vD ds d k).toNat]? =some d)
 | 0=>⟨Qb _,show(-1:Int) < 0 by decide,λh=>absurd (show(0:Int)<= -1 from h) dC⟩
 | k+1=>by
  have ih:=zgK ds d k;unfold vD
  split
  ·rename_i h;exact⟨oM,oM,λ_=>by simpa using h⟩
  ·exact⟨ih.1,oM,ih.2.2⟩
theorem zmg{ds:List Int}{d:Int}:∀{k j:Nat},j < k->ds[j]? =some d->0<=vD ds d k
 | k+1,j,hj,h=>by
  unfold vD
  split
  ·omega
  ·rename_i hn
   by_cases e:j=k
   ·subst e;exact absurd h hn
   ·exact zmg oM h
def zku(ds:List Int):Prop:=(∀d,ds[0]? =some d->d=0)/\(∀d∈ds,0<=d)/\∀i a b,ds[i]? =some a->ds[i+1]? =some b->b<=a+1
theorem zmh{ds:List Int}(h:zku ds){e:Int}(he:0<=e):∀{i:Nat} {d:Int},ds[i]? =some d->e < d->∃j,j < i/\ds[j]? =some e
 | 0,d,hd,hl=>by have:=h.1 d hd;omega
 | i+1,d,hd,hl=>by
  obtain⟨a,ha⟩:∃a,ds[i]? =some a:=⟨_,Xb (by have:=(Xc.1 hd).1;omega)⟩;have hs:=h.2.2 i a d ha hd
  by_cases c:a=e
  ·exact⟨i,oM,by rw[ha,c]⟩
  ·obtain⟨j,h1,h2⟩:=zmh h he ha oM;exact⟨j,oM,h2⟩
theorem zgL{ds:List Int}(h:zku ds){d:Int}(hd:ds[i]? =some d):(d=0->vi ds i= -1)/\(0 < d->∃j:Nat,vi ds i=j/\j < i/\ds[j]? =some (d - 1)):=by
 have hg:ds.getD i 0=d:=by rw[Xt,hd];rfl
 unfold vi;rw[hg];obtain⟨h1,h2,h3⟩:=zgK ds (d - 1) i;refine⟨λe=>?_,λhp=>?_⟩
 ·subst e;refine Int.le_antisymm (Jy.1 λk=>?_) h1;have:=h.2.1 _ (Xd (h3 oM));omega
 ·obtain⟨j,hj,hjd⟩:=zmh h (show 0<=d - 1 by omega) hd oM;have:=zmg hj hjd;exact⟨(vD ds (d - 1) i).toNat,oM,oM,h3 this⟩
def zfu(ds:List Int):Nat->Int->List Nat
 | 0,_=>[]
 | n+1,i=>if i < 0 then[] else i.toNat::zfu ds n (vi ds i.toNat)
theorem zxE(n:Int):CG0 259 [i64 n] [] (pr (zcM n)) []:=by
 refine zc Tryz.func259 ?_;refine⟨λh=>?_,λh=>?_⟩
 ·exact zT (.inl h)
 ·exact zF ⟨.inr,λk=>k.resolve_left h⟩
theorem zxF(xs ys:List Int):CG0 376 [.sl uN xs,.sl uN ys] [] (pr (xs=ys)) []:=by
 refine zc Tryz.func376 ?_;intro hl1 hl2;refine⟨λh1=>zd λe=>h1 (by rw[e]),λh1=>?_⟩;have h1:=Xa.1 h1;intro hl3;refine⟨Int,λi=>⟨[(13,i64 i),(12,i64 xs.length),(0,.sl uN xs),(1,.sl uN ys)],[],0,26,0⟩,λi=>0<=i/\i<=xs.length/\∀j:Nat,(j:Int) < i->xs[j]? =ys[j]?,λi=>((xs.length:Int) - i).toNat,0,?_,?_,?_⟩
 ·exact⟨oM,oM,λj hj=>by omega⟩
 ·exact zE []
 rintro i ⟨h4,h5,h6⟩
 refine⟨λh7=>?_,λh7=>?_⟩
 ·refine Dr.k<|Ob.o ?_;intro x hx;refine Ob.o ?_;intro y hy;refine⟨λh8=>?_,λh8=>?_⟩
  ·refine zd λe=>h8 ?_
   subst e;rw[hx]at hy;exact Xj hy
  ·refine Ar.o<|⟨i+1,⟨oM,oM,λj hj=>?_⟩,zE [],by dsimp only;omega⟩
   by_cases e:j=i.toNat
   ·subst e;rw[hx,hy,Xa.1 h8]
   ·exact h6 j oM
 ·exact zT (Kc λj=>by
   by_cases hj:(j:Int) < i
   ·exact h6 j hj
   ·rw[XB oM,XB oM])
def zPen:Pen:=⟨0,0,0,0,[],0⟩
theorem zzt:LE (.agg [i64 0,i64 0,i64 0,i64 0,.val (.slice none 0 0),i64 0]) (.agg (ji zPen)):=qA (.cons .refl (.cons .refl (.cons .refl (.cons .refl (.cons zD (.cons .refl .nil))))))
def zImg:Img:=⟨0,0,[]⟩
theorem zzu:LE (.agg [i64 0,i64 0,.val (.slice none 0 0)]) (.agg (zkp zImg)):=qA (.cons .refl (.cons .refl (.cons zD .nil)))
def ziB(a b:Pen):Prop:=a.w=b.w/\a.j=b.j/\a.c=b.c/\a.m=b.m/\a.ph=b.ph/\a.d=b.d
instance (a b:Pen):Decidable (ziB a b):=inferInstanceAs (Decidable (_/\_))
theorem zuH{p:Pen}:ziB p zPen↔ul p:=by
 unfold ziB ul zPen;constructor
 ·rintro⟨h1,h2,h3,h4,h5,h6⟩;exact⟨h1,h2,h3,h4,h6,h5⟩
 ·rintro⟨h1,h2,h3,h4,h5,h6⟩;exact⟨h1,h2,h3,h4,h6,h5⟩
theorem zuI(a b:Pen):CG0 321 [.agg (ji a),.agg (ji b)] [] (pr (ziB a b)) []:=by
 refine zc Tryz.func321 ?_;refine⟨λh1=>?_,λh1=>zd λk=>h1 k.1⟩;refine⟨λh2=>?_,λh2=>zd λk=>h2 k.2.1⟩;refine⟨λh3=>?_,λh3=>zd λk=>h3 k.2.2.1⟩;refine⟨λh4=>?_,λh4=>zd λk=>h4 k.2.2.2.1⟩;refine⟨λh5=>?_,λh5=>zd λk=>h5 k.2.2.2.2.1⟩;exact zb.t (zxF a.d b.d)<|zF ⟨λh=>⟨h1,h2,h3,h4,h5,h⟩,λk=>k.2.2.2.2.2⟩
theorem zs3(a:Pen):CG0 321 [.agg (ji a),.agg [i64 0,i64 0,i64 0,i64 0,.val (.slice none 0 0),i64 0]] [] (pr (ul a)) []:=
 ((zuI a zPen).args (.cons .refl (.cons zzt .nil))).le (zF zuH)
theorem zBL(t:AF)(ht:t.le 10000000):CG0 262 [.agg (afE t)] [] (pr (yr t=0)) []:=by
 refine zc Tryz.func262 ?_;refine zb.t (zhQ t ht) ?_;refine zb.t (yq 0 (by constructor <;> decide)) ?_;have hcmp:=zfZ (ofQ (yr t)) (ofQ ((0:Int):Rat)) (by have:=zgH ht;rw[zB];omega) (by decide +kernel);rw[z6,z6]at hcmp;refine zb.t hcmp ?_;exact zF (J1.1 (uP _))
def uF(l:List Pnt):Prop:=∀p∈l,vv p
instance (l:List Pnt):Decidable (uF l):=inferInstanceAs (Decidable (∀p∈l,_))
def zdR(l:List Pnt):Prop:=∀p∈l,p.t.le 1000/\p.im.px.length<=9223372036854775807
def zrB(l:List Pnt):Int:=match l.findIdx? (λp=>¬vv p) with | some i=>i | none=> -1
theorem zzv{l:List Pnt}{i:Nat}{x:Pnt}(h:∀(j:Nat) q,j < i->l[j]? =some q->vv q)(hx:l[i]? =some x)(hb:¬vv x):zrB l=i:=by
 have:l.findIdx? (λp=>¬vv p)=some i:=by
  rw[KE];have hi:=(Xc.1 hx);refine⟨hi.1,by rw[hi.2];simpa using hb,λj hj=>?_⟩;have:=h j _ hj (Xb (by have:=hi.1;omega))
  simpa using this
 unfold zrB;rw[this]
variable{l:List Pnt}
theorem zmi(h:∀p∈l,vv p):zrB l= -1:=by
 have:l.findIdx? (λp=>¬vv p)=none:=by
  rw[Kt];intro p hp;simpa using h p hp
 unfold zrB;rw[this]
theorem zp9:0<=zrB l↔¬uF l:=by
 by_cases h:uF l
 ·rw[zmi h];exact⟨λk=>by omega,λk=>absurd h k⟩
 ·refine⟨λ_=>h,λ_=>?_⟩;unfold zrB
  cases hf:l.findIdx? (λp=>¬vv p) with
  | some i=>exact Int.natCast_nonneg i
  | none=>rw[Kt]at hf;exact absurd (λp hp=>by simpa using hf p hp) h
theorem zBM(p:Pnt)(hp:p.t.le 1000)(hl:p.im.px.length<=9223372036854775807):CG0 379 [.agg (u5 p)] [] (pr (¬vv p)) []:=by
 refine zc Tryz.func379 ?_;exact zb.t (zrA p hp hl)<|zF K4
theorem zzw(xs:List Pnt)(ht:zdR xs):CG0 396 [.sl u5 xs,.fn 379 []] [] (i64 (zrB xs)) []:=by
 refine zc Tryz.func396 ?_;intro hl0;refine⟨Int,λi=>⟨[(8,i64 i),(7,i64 xs.length),(0,.sl u5 xs),(1,.fn 379 [])],[],0,19,0⟩,λi=>0<=i/\i<=xs.length/\∀(j:Nat) q,(j:Int) < i->xs[j]? =some q->vv q,λi=>((xs.length:Int) - i).toNat,0,?_,?_,?_⟩
 ·exact⟨oM,oM,λj q hj=>by omega⟩
 ·exact zE []
 rintro i ⟨h1,h2,h3⟩
 refine⟨λh4=>?_,λh4=>?_⟩
 ·refine Ob.o ?_;intro x hx;have hm:=ht x (Xd hx);refine zb.t (zBM x hm.1 hm.2)<|⟨λh5=>?_,λh5=>?_⟩
  ·refine zi ?_;rw[zzv (i:=i.toNat) (λj q hj=>h3 j q oM) hx h5];omega
  ·refine Ar.o<|⟨i+1,⟨oM,oM,λj q hj hq=>?_⟩,zE [],by dsimp only;omega⟩
   by_cases e:j=i.toNat
   ·subst e;rw[hx]at hq;cases hq;exact Xa.1 h5
   ·exact h3 j q oM hq
 ·refine zi (zmi λp hp=>?_).symm;obtain⟨j,hj,he⟩:=Kg hp;exact h3 j p oM (by rw[← he];exact Xb hj)
theorem zrC(xs:List Pnt)(ht:zdR xs):CG0 378 [.sl u5 xs,.fn 379 []] [] (pr (¬uF xs)) []:=by
 refine zc Tryz.func378 ?_;exact zb.t (zzw xs ht)<|zF zp9
theorem zAo(xs:List Pnt)(ht:zdR xs):CG0 323 [.sl u5 xs] [] (pr (uF xs)) []:=by
 refine zc Tryz.func323 ?_;exact zb.t (zrC xs ht)<|zF Xa
def vy(n:Nd):Prop:=if n.k=1 then(zcW n/\ul n.pen)/\zb8 n else if n.k=2 then zb7 n/\zb8 n else zb7 n/\zcW n/\ul n.pen
instance (n:Nd):Decidable (vy n):=by unfold vy;infer_instance
theorem znN{n:Nd}:zb8 n↔n.im=zImg/\n.smp=0:=by
 unfold zb8 zImg
 rcases n with⟨id,k,d,t,clip,cr,op,mode,iso,ko,path,rule,fill,pen,strk,⟨w,h,px⟩,smp⟩
 simp only[Img.mk.injEq,XJ];constructor
 ·rintro⟨h1,h2,h3,h4⟩;exact⟨⟨h1,h2,h3⟩,h4⟩
 ·rintro⟨⟨h1,h2,h3⟩,h4⟩;exact⟨h1,h2,h3,h4⟩
theorem zBN(n:Nd):CG0 263 [.agg (ndE n)] [] (pr (vy n)) []:=by
 refine zcq tok Tryz.func263 rfl rfl rfl (zcZ.cut tok mix 2 (λ_:Unit=>⟨[(3,pr (zb7 n)),(1,.loc 0 0)],[(0,.box 55 (ndE n))],1,78,0⟩) (λ_=>True) ?_ λ_ _=>
  zcZ.cut tok mix 1 (λ_:Unit=>⟨[(4,pr (zcW n/\ul n.pen)),(3,pr (zb7 n)),(1,.loc 0 0)],[(0,.box 55 (ndE n))],1,78,0⟩) (λ_=>True) ?_ λ_ _=>
  zcZ.cut tok mix 1 (λ_:Unit=>⟨[(5,pr (zb8 n)),(4,pr (zcW n/\ul n.pen)),(3,pr (zb7 n)),(1,.loc 0 0)],[(0,.box 55 (ndE n))],1,78,0⟩) (λ_=>True) ?_ λ_ _=>zcZ.vc tok mix ?_)
 ·refine⟨λh1=>?_,λh1=>⟨(),trivial,(jm (t:=3) rfl (zd λk=>h1 k.1)).trans (qw [(0,some 0)] rfl rfl rfl ⟨rfl,rfl,trivial⟩ ⟨rfl,trivial⟩)⟩⟩;refine⟨λh2=>?_,λh2=>⟨(),trivial,(jm (t:=3) rfl (zd λk=>h2 k.2.1)).trans (qw [(0,some 0)] rfl rfl rfl ⟨rfl,rfl,trivial⟩ ⟨rfl,trivial⟩)⟩⟩;refine⟨λh3=>?_,λh3=>⟨(),trivial,(jm (t:=3) rfl (zd λk=>h3 (by rw[k.2.2.1];decide))).trans (qw [(0,some 0)] rfl rfl rfl ⟨rfl,rfl,trivial⟩ ⟨rfl,trivial⟩)⟩⟩
  exact⟨(),trivial,(jm (t:=3) rfl (zF ⟨λh=>⟨h1,h2,by simpa using h3,by simpa using h⟩,λk=>by rw[k.2.2.2];decide⟩)).trans (qw [(0,some 0)] rfl rfl rfl ⟨rfl,rfl,trivial⟩ ⟨rfl,trivial⟩)⟩
 ·intro hl1;refine⟨λh1=>?_,λh1=>⟨(),trivial,(jm (t:=4) rfl (zd λk=>h1 (by have:=k.1.1;omega))).trans (qw [(0,some 0)] rfl rfl rfl ⟨rfl,rfl,rfl,trivial⟩ ⟨rfl,trivial⟩)⟩⟩;refine⟨λh2=>?_,λh2=>⟨(),trivial,(jm (t:=4) rfl (zd λk=>h2 k.1.2.1)).trans (qw [(0,some 0)] rfl rfl rfl ⟨rfl,rfl,rfl,trivial⟩ ⟨rfl,trivial⟩)⟩⟩;intro hl2;refine⟨λh3=>?_,λh3=>⟨(),trivial,(jm (t:=4) rfl (zd λk=>h3 (by have:=k.1.2.2.1;omega))).trans (qw [(0,some 0)] rfl rfl rfl ⟨rfl,rfl,rfl,trivial⟩ ⟨rfl,trivial⟩)⟩⟩
  intro hl3;refine⟨λh4=>?_,λh4=>⟨(),trivial,(jm (t:=4) rfl (zd λk=>h4 (by have:=k.1.2.2.2;omega))).trans (qw [(0,some 0)] rfl rfl rfl ⟨rfl,rfl,rfl,trivial⟩ ⟨rfl,trivial⟩)⟩⟩;exact zb.t (zs3 n.pen)<|⟨(),trivial,(jm (t:=4) rfl (zF ⟨λh=>⟨⟨oM,h2,oM,oM⟩,h⟩,λk=>k.2⟩)).trans (qw [(0,some 0)] rfl rfl rfl ⟨rfl,rfl,rfl,trivial⟩ ⟨rfl,trivial⟩)⟩
 ·refine zb.t ((zme n.im zImg).args (.cons .refl (.cons zzu .nil)))<|⟨λh1=>?_,λh1=>⟨(),trivial,(jm (t:=5) rfl (zd λk=>h1 (znN.1 k).1)).trans (qw [(0,some 0)] rfl rfl rfl ⟨rfl,rfl,rfl,rfl,trivial⟩ ⟨rfl,trivial⟩)⟩⟩;exact⟨(),trivial,(jm (t:=5) rfl (zF ⟨λh=>znN.2 ⟨h1,h⟩,λk=>(znN.1 k).2⟩)).trans (qw [(0,some 0)] rfl rfl rfl ⟨rfl,rfl,rfl,rfl,trivial⟩ ⟨rfl,trivial⟩)⟩
 ·refine⟨λk1=>?_,λk1=>?_⟩
  ·have e:vy n↔(zcW n/\ul n.pen)/\zb8 n:=by unfold vy;rw[if_pos k1]
   exact⟨λa=>zF ⟨λh=>e.2 ⟨a,h⟩,λk=>(e.1 k).2⟩,λa=>zd λk=>a (e.1 k).1⟩
  refine⟨λk2=>?_,λk2=>?_⟩
  ·have e:vy n↔zb7 n/\zb8 n:=by unfold vy;rw[if_neg k1,if_pos k2]
   exact⟨λa=>zF ⟨λh=>e.2 ⟨a,h⟩,λk=>(e.1 k).2⟩,λa=>zd λk=>a (e.1 k).1⟩
  ·have e:vy n↔zb7 n/\zcW n/\ul n.pen:=by unfold vy;rw[if_neg k1,if_neg k2]
   exact⟨λa=>zF ⟨λh=>e.2 ⟨a,h⟩,λk=>(e.1 k).2⟩,λa=>zd λk=>a (e.1 k).1⟩
def zqa(n:Nd):Prop:=n.k < 1∨3 < n.k
instance (n:Nd):Decidable (zqa n):=inferInstanceAs (Decidable (_∨_))
def zk3(n:Nd):Prop:=n.id < 1∨1073741824 < n.id∨n.d < 0∨8<=n.d
instance (n:Nd):Decidable (zk3 n):=inferInstanceAs (Decidable (_∨_))
def zcN(n:Nd):Er:=zaX [k9 (zqa n) 2,k9 (zk3 n) 6,k9 (¬n.t.ok) 5,k9 (yr n.t=0) 9,k9 (¬jn n.clip) 10,k9 (¬u6 n∨¬vy n) 17]
theorem zxG(n:Nd)(ht:n.t.le 1000):CG0 206 [.agg (ndE n)] [] (.op (erV (zcN n))) []:=by
 refine zcq tok Tryz.func206 rfl rfl rfl (zcZ.cut tok mix 2 (λ_:Unit=>⟨[(3,pr (u6 n)),(1,.loc 0 0)],[(0,.box 55 (ndE n))],1,76,0⟩) (λ_=>True) ?_ λ_ _=>zcZ.vc tok mix ?_)
 ·intro hl1;refine⟨λh1=>?_,λh1=>?_⟩
  ·refine⟨λh2=>⟨(),trivial,(jm (t:=3) rfl (zT (.inl ⟨oM,h2⟩))).trans (qw [(0,some 0)] rfl rfl rfl ⟨rfl,rfl,trivial⟩ ⟨rfl,trivial⟩)⟩,λh2=>?_⟩;intro hl2;refine⟨λh3=>?_,λh3=>⟨(),trivial,(jm (t:=3) rfl (zd λk=>k.elim (λk=>h2 k.2) λk=>by have:=k.1;omega)).trans (qw [(0,some 0)] rfl rfl rfl ⟨rfl,rfl,trivial⟩ ⟨rfl,trivial⟩)⟩⟩;omega
  ·intro hl2;refine⟨λh3=>?_,λh3=>?_⟩
   ·exact zb.t (zxE n.cr)<|⟨(),trivial,(jm (t:=3) rfl (zF ⟨λh=>.inr ⟨oM,h⟩,λk=>k.elim (λk=>by have:=k.1;omega) λk=>k.2⟩)).trans (qw [(0,some 0)] rfl rfl rfl ⟨rfl,rfl,trivial⟩ ⟨rfl,trivial⟩)⟩
   ·omega
 ·refine Dr.d<|Br.mk (λa1=>?_) (λa1=>?_)
  all_goals refine zb.t ((yC (zqa n) 2).args (.cons (by first | exact zT (.inl a1) | exact zF ⟨.inr,λk=>k.resolve_left a1⟩) LEs.refl)) ?_
  all_goals (refine⟨λb1=>?_,λb1=>?_⟩;rotate_left;refine⟨λb2=>?_,λb2=>?_⟩;rotate_left;refine⟨λb3=>?_,λb3=>?_⟩)
  all_goals refine zb.t ((yC (zk3 n) 6).args (.cons (by first | exact zT (by unfold zk3;omega) | exact zF (by unfold zk3;constructor <;> intro <;> omega)) LEs.refl)) ?_
  all_goals refine zb.t (zcu n.t (ht.up dC)) ?_
  all_goals refine zb.t (yC (¬n.t.ok) 5) ?_
  all_goals refine zb.t (zBL n.t (ht.up dC)) ?_
  all_goals refine zb.t (yC (yr n.t=0) 9) ?_
  all_goals refine zb.t (zit n.clip) ?_
  all_goals refine zb.t (yC (¬jn n.clip) 10) ?_
  all_goals refine⟨λc1=>?_,λc1=>?_⟩
  all_goals first
   | refine zb.t ((yC (¬u6 n∨¬vy n) 17).args (.cons (zT (.inl c1)) LEs.refl)) ?_
   | (refine zb.t (zBN n) ?_;refine zb.t ((yC (¬u6 n∨¬vy n) 17).args (.cons (zF ⟨.inr,λk=>k.resolve_left c1⟩) LEs.refl)) ?_)
  all_goals refine⟨Er,zvG,[k9 (zqa n) 2,k9 (zk3 n) 6,k9 (¬n.t.ok) 5,k9 (yr n.t=0) 9,k9 (¬jn n.clip) 10,k9 (¬u6 n∨¬vy n) 17],rfl,Ob.o17 ?_⟩
  all_goals refine zb.see 1 _ (zmT [k9 (zqa n) 2,k9 (zk3 n) 6,k9 (¬n.t.ok) 5,k9 (yr n.t=0) 9,k9 (¬jn n.clip) 10,k9 (¬u6 n∨¬vy n) 17]) rfl rfl rfl ?_
  all_goals refine Ob.mk (by kernel_rfl) ?_
  all_goals exact .refl
def znO(n:Nd):Er:=zaX [k9 (¬jn n.path) 10,k9 (¬zcM n.rule) 2,k9 (1 < n.fill.length∨1 < n.strk.length) 5,k9 (0 < n.strk.length/\¬kF n.pen) 13,k9 (n.strk.length=0/\¬ul n.pen) 17,k9 (¬uF n.fill∨¬uF n.strk) 16]
theorem zzx(n:Nd)(h1:zdR n.fill)(h2:zdR n.strk):CG0 265 [.agg (ndE n)] [] (.op (erV (znO n))) []:=by
 refine zc Tryz.func265 ?_;intro hl1;refine Dr.d<|zb.t (zit n.path)<|zb.t (yC (¬jn n.path) 10)<|zb.t (zxE n.rule)<|zb.t (yC (¬zcM n.rule) 2) ?_;intro hl2;refine⟨λa1=>?_,λa1=>?_⟩;rotate_left;intro hl3
 all_goals refine zb.t ((yC (1 < n.fill.length∨1 < n.strk.length) 5).args (.cons (by first | exact zT (.inl oM) | exact zF (by constructor <;> intro <;> omega)) LEs.refl)) ?_
 all_goals refine⟨λb1=>?_,λb1=>?_⟩
 all_goals first
  | (refine zb.t (zej n.pen) ?_;refine zb.t ((yC (0 < n.strk.length/\¬kF n.pen) 13).args (.cons (zF ⟨λh=>⟨oM,h⟩,λk=>k.2⟩) LEs.refl)) ?_)
  | refine zb.t ((yC (0 < n.strk.length/\¬kF n.pen) 13).args (.cons (zd oM) LEs.refl)) ?_
 all_goals refine⟨λc1=>?_,λc1=>?_⟩
 all_goals first
  | (refine zb.t (zs3 n.pen) ?_;refine zb.t ((yC (n.strk.length=0/\¬ul n.pen) 17).args (.cons (zF ⟨λh=>⟨oM,h⟩,λk=>k.2⟩) LEs.refl)) ?_)
  | refine zb.t ((yC (n.strk.length=0/\¬ul n.pen) 17).args (.cons (zd oM) LEs.refl)) ?_
 all_goals refine zb.t (zAo n.fill h1) ?_
 all_goals refine⟨λd1=>?_,λd1=>?_⟩
 all_goals first
  | refine zb.t ((yC (¬uF n.fill∨¬uF n.strk) 16).args (.cons (zT (.inl d1)) LEs.refl)) ?_
  | (refine zb.t (zAo n.strk h2) ?_;refine zb.t ((yC (¬uF n.fill∨¬uF n.strk) 16).args (.cons (zF ⟨.inr,λk=>k.resolve_left d1⟩) LEs.refl)) ?_)
 all_goals refine⟨Er,zvG,[k9 (¬jn n.path) 10,k9 (¬zcM n.rule) 2,k9 (1 < n.fill.length∨1 < n.strk.length) 5,k9 (0 < n.strk.length/\¬kF n.pen) 13,k9 (n.strk.length=0/\¬ul n.pen) 17,k9 (¬uF n.fill∨¬uF n.strk) 16],rfl,Ob.o17 ?_⟩
 all_goals refine zb.see 1 _ (zmT [k9 (¬jn n.path) 10,k9 (¬zcM n.rule) 2,k9 (1 < n.fill.length∨1 < n.strk.length) 5,k9 (0 < n.strk.length/\¬kF n.pen) 13,k9 (n.strk.length=0/\¬ul n.pen) 17,k9 (¬uF n.fill∨¬uF n.strk) 16]) rfl rfl rfl ?_
 all_goals refine Ob.mk (by kernel_rfl) ?_
 all_goals exact .refl
def zk4(n:Nd):Er:=if n.k=1 then k9 (¬zkv n.mode) 2 else if n.k=2 then znO n else zaX [k9 (¬zeS n.im) 16,k9 (n.smp≠1/\n.smp≠2) 2]
def zkw(n:Nd):Prop:=n.t.le 1000/\zdR n.fill/\zdR n.strk/\n.im.px.length<=9223372036854775807
theorem g_own(n:Nd)(h:zkw n):CG0 207 [.agg (ndE n)] [] (.op (erV (zk4 n))) []:=by
 obtain⟨_,h1,h2,h3⟩:=h;refine zc Tryz.func207 ?_;refine⟨λk1=>?_,λk1=>?_⟩
 ·refine zb.t (zBJ n.mode)<|zb.t (yC (¬zkv n.mode) 2) ?_;rw[zk4,if_pos k1];exact .refl
 refine⟨λk2=>?_,λk2=>?_⟩
 ·refine zb.t (zzx n h1 h2) ?_;rw[zk4,if_neg k1,if_pos k2];exact .refl
 rw[zk4,if_neg k1,if_neg k2];refine Dr.d<|zb.t (zmd n.im h3)<|zb.t (yC (¬zeS n.im) 16)<|⟨λb1=>?_,λb1=>?_⟩
 all_goals refine zb.t ((yC (n.smp≠1/\n.smp≠2) 2).args (.cons (by first | exact zF ⟨λh=>⟨b1,h⟩,λk=>k.2⟩ | exact zd λk=>b1 k.1) LEs.refl)) ?_
 all_goals refine⟨Er,zvG,[k9 (¬zeS n.im) 16,k9 (n.smp≠1/\n.smp≠2) 2],rfl,Ob.o17 ?_⟩
 all_goals refine zb.see 1 _ (zmT [k9 (¬zeS n.im) 16,k9 (n.smp≠1/\n.smp≠2) 2]) rfl rfl rfl ?_
 all_goals refine Ob.mk (by kernel_rfl) ?_
 all_goals exact .refl
def zdS:Er->Int->Int
 | .nil,c=>c
 | .w c u,_=>zdS u c
def zs4:Er->Nat
 | .nil=>0
 | .w _ u=>zs4 u+1
def zrD(n:Nd):Er:=match zcN n with
 | .nil=>zk4 n
 | .w c u=>.w c u
def cellA:Option (Int×Er)->SV
 | none=>i64 0
 | some (a,_)=>i64 a
def zBO:Option (Int×Er)->SV
 | none=>.val .nilIface
 | some (_,b)=>.op (erV b)
theorem zxH(n:Nd)(h:zkw n):CG0 143 [.agg (ndE n)] [] (i64 (zdS (zrD n) 0)) []:=by
 refine zcq tok Tryz.func143 rfl rfl rfl (zcZ.cut tok mix 3 (λ_:Unit=>⟨[(3,.op (erV (zrD n)))],[],1,20,0⟩) (λ_=>True) ?_ λ_ _=>zcZ.vc tok mix ?_)
 ·have hc:=zxG n h.1;have ht:zrD n=match zcN n with | .nil=>zk4 n | .w c u=>.w c u:=rfl
  revert hc ht
  generalize zcN n=e
  cases e with
  | nil=>
   intro hc ht;refine zb.t hc<|Br.mk (λ_=>?_) (λk=>absurd rfl k);refine zb.t (g_own n h) ?_;rw[ht];exact⟨(),trivial,zf [0]⟩
  | w c u=>
   intro hc ht;refine zb.t hc<|Br.mk (λk=>by cases k) (λ_=>?_);rw[ht];exact⟨(),trivial,zf [0]⟩
 ·refine⟨Er×Int×Option (Int×Er),λx=>⟨[(4,i64 x.2.1),(3,.op (erV x.1)),(5,.loc 1 0)],[(1,.box 234 [cellA x.2.2,zBO x.2.2])],2,20,0⟩,λx=>zdS x.1 x.2.1=zdS (zrD n) 0,λx=>zs4 x.1,(zrD n,0,none),rfl,?_,?_⟩
  ·exact zE [(1,some 1)]
  rintro⟨e,c,o⟩ hI
  cases e with
  | nil=>
   rcases o with _ | ⟨a,b⟩
   ·exact zb.give [1] 0 [.op (erV .nil),.ifc 236 (.loc 0 0)] [(0,.box 234 [i64 0,.val .nilIface])] [(0,.box 234 [i64 0,.val .nilIface])] (bl false) (zoC _ _) LEs.refl rfl rfl rfl ⟨⟨_,rfl,rfl,rfl⟩,trivial⟩ rfl ⟨⟨rfl,rfl⟩,trivial⟩<|zi hI
   ·exact zb.give [1] 0 [.op (erV .nil),.ifc 236 (.loc 0 0)] [(0,.box 234 [i64 a,.op (erV b)])] [(0,.box 234 [i64 a,.op (erV b)])] (bl false) (zoC _ _) LEs.refl rfl rfl rfl ⟨⟨_,rfl,rfl,rfl⟩,trivial⟩ rfl ⟨⟨rfl,rfl⟩,trivial⟩<|zi hI
  | w c' u=>
   rcases o with _ | ⟨a,b⟩
   ·exact zb.give [1] 0 [.op (erV (.w c' u)),.ifc 236 (.loc 0 0)] [(0,.box 234 [i64 0,.val .nilIface])] [(0,.box 234 [i64 c',.op (erV u)])] (bl true) (zoD c' u _ _) LEs.refl rfl rfl rfl ⟨⟨_,rfl,rfl,rfl⟩,trivial⟩ rfl ⟨⟨rfl,rfl⟩,trivial⟩<|Dr.k<|⟨(u,c',some (c',u)),hI,zE [(1,some 1)],by dsimp only[zs4];omega⟩
   ·exact zb.give [1] 0 [.op (erV (.w c' u)),.ifc 236 (.loc 0 0)] [(0,.box 234 [i64 a,.op (erV b)])] [(0,.box 234 [i64 c',.op (erV u)])] (bl true) (zoD c' u _ _) LEs.refl rfl rfl rfl ⟨⟨_,rfl,rfl,rfl⟩,trivial⟩ rfl ⟨⟨rfl,rfl⟩,trivial⟩<|Dr.k<|⟨(u,c',some (c',u)),hI,zE [(1,some 1)],by dsimp only[zs4];omega⟩
variable{p:Prop}{c:Int}
theorem zkx[Decidable p]{l:List Er}:zaX (k9 p c::l)=if p then .w 0 (.w c .nil) else zaX l:=by unfold k9;split <;> rfl
theorem zuJ[Decidable p]:zdS (k9 p c) 0=if p then c else 0:=by unfold k9;split <;> rfl
theorem zxI{n:Nd}:¬zgI n↔¬u6 n∨¬vy n:=by
 show ¬(u6 n/\vy n)↔_;exact Decidable.not_and_iff_or_not
theorem zky[Decidable p]{l:List Er}:zdS (zaX (k9 p c::l)) 0=if p then c else zdS (zaX l) 0:=by rw[zkx];split <;> rfl
theorem zBP(n:Nd):zdS (zrD n) 0=y7 n:=by
 have hs:zdS (znO n) 0=vw n:=by
  unfold znO vw;simp only[zky];rfl
 have ho:zdS (zk4 n) 0=if n.k=1 then(if ¬(1<=n.mode/\n.mode<=13) then 2 else 0) else if n.k=2 then vw n else if ¬zeS n.im then 16 else if n.smp≠1/\n.smp≠2 then 2 else 0:=by
  unfold zk4
  split
  ·exact zuJ
  ·split
   ·exact hs
   ·simp only[zky];rfl
 have ht:zrD n=match zcN n with | .nil=>zk4 n | .w c u=>.w c u:=rfl
 have hc:y7 n=if zqa n then 2 else if zk3 n then 6 else if ¬n.t.ok then 5 else if yr n.t=0 then 9 else if ¬jn n.clip then 10 else if ¬u6 n∨¬vy n then 17 else zdS (zk4 n) 0:=by
  rw[ho];unfold y7;simp only[zxI];rfl
 rw[hc,ht]
 have hm:zcN n=if zqa n then .w 0 (.w 2 .nil) else if zk3 n then .w 0 (.w 6 .nil) else if ¬n.t.ok then .w 0 (.w 5 .nil) else if yr n.t=0 then .w 0 (.w 9 .nil) else if ¬jn n.clip then .w 0 (.w 10 .nil) else if ¬u6 n∨¬vy n then .w 0 (.w 17 .nil) else .nil:=by
  unfold zcN;simp only[zkx];rfl
 rw[hm]
 by_cases h1:zqa n
 ·simp only[if_pos h1];rfl
 simp only[if_neg h1]
 by_cases h2:zk3 n
 ·simp only[if_pos h2];rfl
 simp only[if_neg h2]
 by_cases h3:¬n.t.ok
 ·simp only[if_pos h3];rfl
 simp only[if_neg h3]
 by_cases h4:yr n.t=0
 ·simp only[if_pos h4];rfl
 simp only[if_neg h4]
 by_cases h5:¬jn n.clip
 ·simp only[if_pos h5];rfl
 simp only[if_neg h5]
 by_cases h6:¬u6 n∨¬vy n
 ·simp only[if_pos h6];rfl
 simp only[if_neg h6]
theorem zzy(n:Nd)(h:zkw n):CG0 143 [.agg (ndE n)] [] (i64 (y7 n)) []:=zBP n ▸ zxH n h
def um(t:AF)(x:List Pt)(j:Nat):List Pt:=y6 t (x.take j)++List.replicate (x.length - j) zp
variable{j:Nat}
theorem zkz(t:AF)(x:List Pt)(h:j<=x.length):(um t x j).length=x.length:=by
 unfold um y6;rw[Xi,XF,Xk,Ke];omega
theorem zkA{t:AF}{x:List Pt}{z:Pt}(h:x[j]? =some z):(um t x j).set j (kI t z).1=um t x (j+1):=by
 have hj:j < x.length:=(Xc.1 h).1;have hl:(y6 t (x.take j)).length=j:=by unfold y6;rw[XF,Xk];omega
 unfold um;rw[show x.length - j=(x.length - (j+1))+1 by omega,List.replicate_succ,J8 _ _ oM,hl,Jv,List.set_cons_zero];have e:y6 t (x.take (j+1))=y6 t (x.take j)++[(kI t z).1]:=by unfold y6;rw[Xm,h,XI];rfl
 rw[e,XL];rfl
def tQ(rs:List (List Pt))(t:AF):Nat->St
 | 0=>⟨[(3,.loc 0 0),(4,.loc 1 0),(5,.loc 2 0),(15,.sl zk rs),(16,i64 (rs.length:Int)),(17,i64 ((0:Nat):Int))],[(0,.box 45 (afE t)),(1,.box 30 [.val (.slice none 0 0)]),(2,.box 61 [i64 0])],3,48,3⟩
 | i+1=>⟨[(3,.loc 0 0),(4,.loc 1 0),(5,.loc 2 0),(15,.sl zk rs),(16,i64 (rs.length:Int)),(17,i64 ((i+1:Nat):Int))],[(0,.box 45 (afE t)),(1,.box 30 [.own 3]),(2,.box 61 [i64 0]),(3,.garr 72 1 (yM ((rs.take (i+1)).map (y6 t))))],4,48,3⟩
theorem zBQ(rs:List (List Pt))(t:AF)(ht:t.le 100000)(hl:rs.length<=100000)(hs:∀r∈rs,(r.length:Int)<=9223372036854771711):CG0 124 [.sl zk rs,.agg (afE t)] [] (rgE (uO rs t)) []:=by
 refine zmc 2 2 tok mix Tryz.func124 rfl rfl rfl Tryz.func191 rfl rfl<|⟨_,_,rfl,?_⟩;refine⟨_,_,rfl,?_⟩;refine zb.t (zjP rs hs)<|⟨λk=>?_,λk=>?_⟩
 ·have k:¬ur rs:=k;exact qM (by unfold uO;rw[if_pos k])
 have k:ur rs:=Xa.1 k;have es:uO rs t=if zhy t rs≠0 then([],zhy t rs) else(rs.map (y6 t),0):=by unfold uO;rw[kS k]
 have hc:qB rs<=4096:=by have:=k.1;omega
 refine⟨_,_,_,_,_,rfl,rfl,rfl,rfl,?_⟩;refine⟨_,rfl,rfl,rfl,?_⟩;intro hl1;refine⟨Nat,tQ rs t,λi=>i<=rs.length/\∀r∈rs.take i,zgx t r=0,λi=>rs.length - i,0,⟨Xe _,λr hr=>by cases hr⟩,?_,?_⟩
 ·exact zf [0,1,2]
 rintro(_ | i) ⟨h1,h2⟩
 ·refine⟨λg=>?_,λg=>?_⟩;rotate_left
  ·have g:¬(((0:Nat):Int)) < rs.length:=g;have e0:rs=[]:=Xn oM;refine⟨_,.refl,rfl,?_⟩;refine⟨λh=>absurd rfl h,λ_=>?_⟩;exact qM (by rw[es,e0];rfl)
  have g:((0:Nat):Int) < rs.length:=g;obtain⟨x,hx⟩:∃x,rs[0]? =some x:=⟨_,Xb oM⟩;have hxl:=Xz (zb6 (Xd hx)) hc;refine Ob.o ?_;intro y hy;have ey:y=x:=Xj ((show rs[0]? =some y from hy).symm.trans hx);rw[ey];intro hl2;refine⟨Pt,ptE,zp,rfl,Ob.mk ⟨dC,oM,oM,(by show(x.length:Int)*16<=_;omega),oM⟩ ?_⟩;intro hl3
  refine⟨Nat,λj=>⟨[(3,.loc 0 0),(4,.loc 1 0),(5,.loc 2 0),(8,.own 3),(15,.sl zk rs),(16,i64 (rs.length:Int)),(17,i64 ((0:Nat):Int)),(24,.sl ptE x),(25,i64 (x.length:Int)),(26,i64 (j:Int))],[(0,.box 45 (afE t)),(1,.box 30 [.val (.slice none 0 0)]),(2,.box 61 [i64 0]),(3,.arr 35 ptE 2 (um t x j))],4,48,3⟩,λj=>j<=x.length/\∀p∈x.take j,(kI t p).2=0,λj=>x.length - j,0,⟨Xe _,λp hp=>by cases hp⟩,?_,?_⟩
  ·exact zC [0,1,2,3] ⟨rfl,rfl,rfl,congrArg (λq=>some (Mem.arr 35 ptE 2 q)) (by unfold um;rfl),trivial⟩
  rintro j ⟨j1,j2⟩
  have zl:=zkz t x j1;refine⟨λq=>?_,λq=>?_⟩
  ·have q:(j:Int) < x.length:=q;refine Ob.o ?_;intro z hz;have hz:x[j]? =some z:=hz;refine zb.t (zcC t z ht)<|Ob.o<|Ob.o ?_;intro old _;refine⟨(kI t z).1,rfl,?_⟩;refine⟨λe=>?_,λe=>?_⟩
   ·have e:¬(kI t z).2=0:=e;have eL:=zgz hz j2 e;have eR:=zgA hx h2 (by rw[eL];exact e);refine⟨_,.refl,rfl,?_⟩;refine⟨λ_=>?_,λh=>absurd e h⟩;exact qM (by rw[es,eR,eL,if_pos e])
   have e:(kI t z).2=0:=Xa.1 e;exact Ar.o<|⟨j+1,⟨oM,yx hz j2 e⟩,zC [0,1,2,3] ⟨rfl,rfl,congrArg (λn=>some (Mem.box 61 [i64 n])) e,congrArg (λq=>some (Mem.arr 35 ptE 2 q)) (zkA hz),trivial⟩,by dsimp only;omega⟩
  have q:¬(j:Int) < x.length:=q;have etx:x.take j=x:=Xg oM;have ez:um t x j=y6 t x:=by unfold um;rw[etx,show x.length - j=0 by omega];exact XE _
  rw[etx]at j2;refine⟨[[.own 3]],rfl,Ob.o8 ?_⟩;refine Ob.o27<|Ar.o<|⟨0+1,⟨oM,yx hx h2 (zgy j2)⟩,(zco (sz0:=1) (T0:=72) 3 5 (enc:=ptE) (ys:=um t x j) rfl rfl (xs':=yM ([]++[um t x j])) (by rfl) (λz hz=>?_) zgB).trans (zC [0,1,2,5] ⟨rfl,rfl,rfl,⟨_,rfl,zaf ?_⟩,trivial⟩),by dsimp only;omega⟩
  ·unfold yM at hz;obtain⟨b,_,rfl⟩:=XY.1 hz;rfl
  ·rw[ez];rw[Xm,hx];rfl
 ·refine⟨λg=>?_,λg=>?_⟩;rotate_left
  ·have g:¬((i+1:Nat):Int) < rs.length:=g;have et:rs.take (i+1)=rs:=Xg oM;have h3:=h2;rw[et]at h3;have er:uO rs t=(rs.map (y6 t),0):=by rw[es,znI h3];rfl
   refine⟨_,zfQ 3 zk ((rs.take (i+1)).map (y6 t)) rfl (λ_ _=>rfl),rfl,?_⟩;refine⟨λh=>absurd rfl h,λ_=>?_⟩;rw[er];exact zI (z9 (show(rs.take (i+1)).map (y6 t)=rs.map (y6 t) by rw[et])) .refl
  have g:(((i+1):Nat):Int) < rs.length:=g;obtain⟨x,hx⟩:∃x,rs[(i+1)]? =some x:=⟨_,Xb oM⟩;have hxl:=Xz (zb6 (Xd hx)) hc;refine Ob.o ?_;intro y hy;have ey:y=x:=Xj ((show rs[(i+1)]? =some y from hy).symm.trans hx);rw[ey];intro hl2;refine⟨Pt,ptE,zp,rfl,Ob.mk ⟨dC,oM,oM,(by show(x.length:Int)*16<=_;omega),oM⟩ ?_⟩;intro hl3
  refine⟨Nat,λj=>⟨[(3,.loc 0 0),(4,.loc 1 0),(5,.loc 2 0),(8,.own 4),(15,.sl zk rs),(16,i64 (rs.length:Int)),(17,i64 (((i+1):Nat):Int)),(24,.sl ptE x),(25,i64 (x.length:Int)),(26,i64 (j:Int))],[(0,.box 45 (afE t)),(1,.box 30 [.own 3]),(2,.box 61 [i64 0]),(3,.garr 72 1 (yM ((rs.take (i+1)).map (y6 t)))),(4,.arr 35 ptE 2 (um t x j))],5,48,3⟩,λj=>j<=x.length/\∀p∈x.take j,(kI t p).2=0,λj=>x.length - j,0,⟨Xe _,λp hp=>by cases hp⟩,?_,?_⟩
  ·exact zC [0,1,2,3,4] ⟨rfl,rfl,rfl,⟨_,rfl,zaf rfl⟩,congrArg (λq=>some (Mem.arr 35 ptE 2 q)) (by unfold um;rfl),trivial⟩
  rintro j ⟨j1,j2⟩
  have zl:=zkz t x j1;refine⟨λq=>?_,λq=>?_⟩
  ·have q:(j:Int) < x.length:=q;refine Ob.o ?_;intro z hz;have hz:x[j]? =some z:=hz;refine zb.t (zcC t z ht)<|Ob.o<|Ob.o ?_;intro old _;refine⟨(kI t z).1,rfl,?_⟩;refine⟨λe=>?_,λe=>?_⟩
   ·have e:¬(kI t z).2=0:=e;have eL:=zgz hz j2 e;have eR:=zgA hx h2 (by rw[eL];exact e);refine⟨_,.refl,rfl,?_⟩;refine⟨λ_=>?_,λh=>absurd e h⟩;exact qM (by rw[es,eR,eL,if_pos e])
   have e:(kI t z).2=0:=Xa.1 e;exact Ar.o<|⟨j+1,⟨oM,yx hz j2 e⟩,zC [0,1,2,3,4] ⟨rfl,rfl,congrArg (λn=>some (Mem.box 61 [i64 n])) e,⟨_,rfl,zaf rfl⟩,congrArg (λq=>some (Mem.arr 35 ptE 2 q)) (zkA hz),trivial⟩,by dsimp only;omega⟩
  have q:¬(j:Int) < x.length:=q;have etx:x.take j=x:=Xg oM;have ez:um t x j=y6 t x:=by unfold um;rw[etx,show x.length - j=0 by omega];exact XE _
  rw[etx]at j2;refine⟨[[.own 4]],rfl,Ob.o8 ?_⟩;refine Ob.mk ⟨by show _*(24:Int)<=_;rw[vf,XF,Xk];simp only[Xl,Xs];omega,by rw[vf,XF,Xk];simp only[Xl,Xs];omega,dC⟩<|Ar.o ?_
  refine⟨(i+1)+1,⟨oM,yx hx h2 (zgy j2)⟩,(zco (sz0:=1) (T0:=72) 4 6 (enc:=ptE) (ys:=um t x j) rfl rfl (xs':=yM ((rs.take (i+1)).map (y6 t)++[um t x j])) (by rw[vf,Xi,Xi,vf];rfl) (λz hz=>?_) zgB).trans (zC [0,1,2,6] ⟨rfl,rfl,rfl,⟨_,rfl,zaf ?_⟩,trivial⟩),by dsimp only;omega⟩
  ·unfold yM at hz;obtain⟨b,_,rfl⟩:=XY.1 hz;rfl
  ·rw[ez];rw[Xm (l:=rs) (i:=i+1),hx,XI];rfl
variable{pen:Pen}
theorem zxJ{p:Pl}:∀r∈kw p pen,0 < r.length:=by
 intro r hr;unfold kw at hr
 rcases Xo.1 hr with hr | hr
 ·rcases Xo.1 hr with hr | hr
  ·rw[vP]at hr
   rcases Xo.1 hr with hr | hr
   ·unfold zdI at hr;obtain⟨i,_,hr⟩:=Qt.1 hr;exact zb2 hr
   ·split at hr
    ·exact zb2 hr
    ·cases hr
  ·rw[zb3]at hr
   split at hr
   ·cases hr
   ·unfold yg at hr;obtain⟨i,_,hr⟩:=Qt.1 hr;unfold zeR at hr
    split at hr
    ·cases hr
    ·exact znz r hr
 ·unfold zdC at hr
  split at hr
  ·exact zb2 hr
  ·split at hr
   ·rcases Xo.1 hr with hr | hr <;> exact zb2 hr
   ·cases hr
theorem zrE{p:Pl}:∀r∈(kD p pen).1,0 < r.length:=by
 unfold kD
 split
 ·intro r hr;cases hr
 split
 ·intro r hr;cases hr
 split
 ·intro r hr;cases hr
 split
 ·intro r hr;cases hr
 split
 ·intro r hr;cases hr
 ·exact zxJ
theorem zh4{pen:Pen}:∀{l:List Pl},∀r∈(qp l pen).1,0 < r.length
 | [],r,hr=>by cases hr
 | p::s,r,hr=>by
  unfold qp at hr
  split at hr
  ·cases hr
  split at hr
  ·cases hr
  rcases Xo.1 hr with hr | hr
  ·exact zrE r hr
  ·exact zh4 r hr
theorem zxK:∀{rs:List (List Pt)},(∀r∈rs,0 < r.length)->rs.length<=qB rs
 | [],_=>Xe _
 | r::s,h=>by
  have h1:=h r (.head _);have h2:=zxK λq hq=>h q (.tail _ hq)
  rw[zgp,Xl];omega
theorem zdT(l:List Pl)(pen:Pen):(qC l pen).1.length<=4096/\∀r∈(qC l pen).1,(r.length:Int)<=9223372036854771711:=by
 unfold qC
 split
 ·exact⟨Xe _,λr hr=>by cases hr⟩
 split
 ·exact⟨Xe _,λr hr=>by cases hr⟩
 split
 ·exact⟨Xe _,λr hr=>by cases hr⟩
 ·rename_i h;have hg:=zxK (zh4 (l:=l) (pen:=pen));exact⟨by dsimp only;omega,λr hr=>by have hr:r∈(qp l pen).1:=hr;have:=zb6 hr;omega⟩
theorem zdU{pen:Pen}:∀{l:List Pl},(∀p∈l,p.pts.length<=4096)->(yh l pen).1.length<=4096*l.length/\∀q∈(yh l pen).1,q.pts.length<=4096
 | [],_=>⟨Xh 0,λq hq=>by cases hq⟩
 | p::r,hl=>by
  obtain⟨i1,i2⟩:=zdU (pen:=pen) (l:=r) λq hq=>hl q (.tail _ hq)
  obtain⟨f1,f2⟩:=zbt (pen:=pen) (hl p (.head _));unfold yh
  split
  ·exact⟨Xe _,λq hq=>by cases hq⟩
  split
  ·exact⟨Xe _,λq hq=>by cases hq⟩
  ·rw[Xi,Xl];refine⟨oM,λq hq=>?_⟩
   rcases Xo.1 hq with hq | hq
   ·exact f2 q hq
   ·exact i2 q hq
def zb9(l:List Sg)(pen:Pen)(t:AF)(tol:Int):List (List Pt)×Int:=
 if ¬kF pen then([],13) else if (z5 l tol).2≠0 then([],(z5 l tol).2) else if (yh (z5 l tol).1 pen).2≠0 then([],(yh (z5 l tol).1 pen).2)
 else if (qC (yh (z5 l tol).1 pen).1 pen).2≠0 then([],(qC (yh (z5 l tol).1 pen).1 pen).2) else uO (qC (yh (z5 l tol).1 pen).1 pen).1 t
theorem zuK(l:List Sg)(pen:Pen)(t:AF)(tol:Int)(ht:t.le 100000):CG0 60 [.sl sgE l,.agg (ji pen),.agg (afE t),i64 tol] [] (rgE (zb9 l pen t tol)) []:=by
 refine zc Tryz.func60 ?_;have de:=zrw pen;refine zb.t (zzl pen)<|⟨λe=>?_,λe=>?_⟩
 ·have e:¬(jy ⟨[],false⟩ pen).2=0:=e;have k:¬kF pen:=λk=>e (by rw[de,if_pos k])
  refine qM ?_;rw[de,if_neg k];unfold zb9;rw[if_pos k]
 have e:(jy ⟨[],false⟩ pen).2=0:=Xa.1 e
 have hk:kF pen:=by
  refine Xa.1 λk=>?_
  rw[de,if_neg k]at e;exact absurd e dC
 have fs:=zbu l tol;have cf:=zdU (pen:=pen) fs.2;refine zb.t (zw4 l tol)<|⟨λe1=>?_,λe1=>?_⟩
 ·have e1:¬(z5 l tol).2=0:=e1;exact qM (by unfold zb9;rw[kS hk,if_pos e1])
 have e1:(z5 l tol).2=0:=Xa.1 e1;refine zb.t (zBE (z5 l tol).1 pen fs.1 fs.2)<|⟨λe2=>?_,λe2=>?_⟩
 ·have e2:¬(yh (z5 l tol).1 pen).2=0:=e2;exact qM (by unfold zb9;rw[kS hk,jc e1,if_pos e2])
 have e2:(yh (z5 l tol).1 pen).2=0:=Xa.1 e2;refine zb.t (zuj (yh (z5 l tol).1 pen).1 pen oM cf.2) ?_;have sm:=zdT (yh (z5 l tol).1 pen).1 pen;refine⟨λe3=>?_,λe3=>?_⟩
 ·have e3:¬(qC (yh (z5 l tol).1 pen).1 pen).2=0:=e3;exact qM (by unfold zb9;rw[kS hk,jc e1,jc e2,if_pos e3])
 have e3:(qC (yh (z5 l tol).1 pen).1 pen).2=0:=Xa.1 e3;refine zb.t (zBQ (qC (yh (z5 l tol).1 pen).1 pen).1 t ht oM sm.2) ?_;have ee:zb9 l pen t tol=uO (qC (yh (z5 l tol).1 pen).1 pen).1 t:=by unfold zb9;rw[kS hk,jc e1,jc e2,jc e3]
 rw[ee];exact .refl
theorem zuL(l:List Sg)(pen:Pen)(t:AF)(tol:Int)(ht:t.le 100000):CG0 30 [.sl sgE l,.agg (ji pen),.agg (afE t),i64 tol] [] (rgE (zb9 l pen t tol)) []:=by
 refine zc Tryz.func30 ?_;refine zb.t (zcz pen)<|⟨λk=>?_,λk=>?_⟩
 ·have k:¬kF pen:=k;exact qM (by unfold zb9;rw[if_pos k])
 have hk:kF pen:=Xa.1 k;have fs:=zbu l tol;have cf:=zdU (pen:=pen) fs.2;refine zb.t (zw5 l tol)<|⟨λe1=>?_,λe1=>?_⟩
 ·have e1:¬(z5 l tol).2=0:=e1;exact qM (by unfold zb9;rw[kS hk,if_pos e1])
 have e1:(z5 l tol).2=0:=Xa.1 e1;refine⟨Nat,λi=>⟨[(5,.loc 0 0),(6,.loc 1 0),(10,.sl plE (z5 l tol).1),(12,.own 2),(13,i64 (i:Int))],[(0,.box 50 (ji pen)),(1,.box 45 (afE t)),(2,.arr 118 plE 2 (zcL ((z5 l tol).1.take i) pen))],3,65,0⟩,λi=>i<=(z5 l tol).1.length/\∀q∈(z5 l tol).1.take i,(jy q pen).2=0,λi=>(z5 l tol).1.length - i,0,⟨Xe _,λq hq=>by cases hq⟩,?_,?_⟩
 ·exact zE [(0,some 0),(1,some 1),(2,none)]
 rintro i ⟨h1,h2⟩
 obtain⟨f1,_⟩:=zfq (pen:=pen) (l:=(z5 l tol).1.take i) λq hq=>fs.2 q (XC hq)
 rw[Xk]at f1;intro hl1;refine⟨λg=>?_,λg=>?_⟩
 ·have g:(i:Int) < (z5 l tol).1.length:=g;refine Dr.d<|Ob.o ?_;intro x hx;have hx:(z5 l tol).1[i]? =some x:=hx;have hpx:=fs.2 x (Xd hx);refine zb.t (zBD x pen hpx)<|Ob.mk (by kernel_rfl)<|⟨λz=>?_,λz=>?_⟩
  ·have z:¬(jy x pen).2=0:=z;have ce:=zhw hx h2 z;exact qM (by unfold zb9;rw[kS hk,jc e1,ce];exact if_pos z)
  have z:(jy x pen).2=0:=Xa.1 z;obtain⟨s1,s2⟩:=zbt (pen:=pen) hpx;refine⟨(jy x pen).1,rfl,Ob.o26 ?_⟩;exact Ar.o<|⟨i+1,⟨oM,zgq hx h2 z⟩,zC [0,1,3] ⟨rfl,rfl,congrArg (λq=>some (Mem.arr 118 plE 2 q)) (zmb hx).symm,trivial⟩,by dsimp only;omega⟩
 have g:¬(i:Int) < (z5 l tol).1.length:=g;have et:(z5 l tol).1.take i=(z5 l tol).1:=Xg oM;rw[et]at h2;have co:=zkl h2;have c1:(yh (z5 l tol).1 pen).1=zcL ((z5 l tol).1.take i) pen:=by rw[co,et]
 have c2:(yh (z5 l tol).1 pen).2=0:=by rw[co]
 have ee:zb9 l pen t tol=if (qC (zcL ((z5 l tol).1.take i) pen) pen).2≠0 then([],(qC (zcL ((z5 l tol).1.take i) pen) pen).2) else uO (qC (zcL ((z5 l tol).1.take i) pen) pen).1 t:=by
  unfold zb9;rw[kS hk,jc e1,jc c2,c1]
 rw[c1]at cf;refine zb.see 2 _ (zuk (zcL ((z5 l tol).1.take i) pen) pen oM cf.2) rfl rfl rfl ?_;have sm:=zdT (zcL ((z5 l tol).1.take i) pen) pen;refine⟨λe3=>?_,λe3=>?_⟩
 ·have e3:¬(qC (zcL ((z5 l tol).1.take i) pen) pen).2=0:=e3;exact qM (by rw[ee,if_pos e3])
 have e3:(qC (zcL ((z5 l tol).1.take i) pen) pen).2=0:=Xa.1 e3;rw[jc e3]at ee;refine zb.t (zBG (qC (zcL ((z5 l tol).1.take i) pen) pen).1 t ht oM) ?_;rw[ee];exact .refl
end Go.Gs
