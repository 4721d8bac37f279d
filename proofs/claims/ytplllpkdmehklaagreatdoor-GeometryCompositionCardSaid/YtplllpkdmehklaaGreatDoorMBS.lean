/- Outlines: fills, both texts. -/
import Derived.Test.YtplllpkdmehklaaGreatDoorMA
import Derived.Test.YtplllpkdmehklaaGreatDoorMBR
import Derived.Test.YtplllpkdmehklaaGreatDoorMBO
import Derived.Test.YtplllpkdmehklaaGreatDoorMAY
import Derived.Test.YtplllpkdmehklaaGreatDoorMBP
import Derived.Test.YtplllpkdmehklaaGreatDoorMBA
import Derived.Test.YtplllpkdmehklaaGreatDoorMBQ
set_option maxRecDepth 100000
set_option maxHeartbeats 8000000
set_option linter.all false
namespace Go.Gs
open Go.Proofs
theorem zui{l:List Sg}{tol:Int}(h:¬(kr l tol).2=0):(kr l tol).1=[]:=by
 unfold kr at h ⊢
 split at h <;> rename_i k1
 ·rw [if_pos k1]
 rw [if_neg k1]
 split at h <;> rename_i k2
 ·rw [if_pos k2]
 rw [if_neg k2]
 split at h <;> rename_i k3
 ·rw [if_pos k3]
 rw [if_neg k3]
 split at h <;> rename_i k4
 ·rw [if_pos k4]
 ·exact absurd rfl h
theorem zdq(l:List Sg)(tol:Int):(kr l tol).1.length<=4096/\∀q∈(kr l tol).1,q.pts.length<=4096:=by
 by_cases h:(kr l tol).2=0
 ·have hv:qq l:=by
   refine Decidable.not_not.1 fun k=>?_
   unfold kr at h;rw [if_pos k] at h;exact absurd h dC
  obtain ⟨_,_,f3,f4⟩:=zhg (lo:=⟨-1048576,-1048576⟩) (hi:=⟨1048576,1048576⟩) h (fun p hp=>zqw hv p hp);have hg:=zhT (l:=(kr l tol).1) fun x hx=>Nat.pos_of_ne_zero fun e=>(f4 x hx).1 (List.eq_nil_of_length_eq_zero e)
  exact ⟨oM,fun q hq=>by have:=zjv hq;omega⟩
 ·rw [zui h];exact ⟨Nat.zero_le _,fun q hq=>by cases hq⟩
theorem zzL(l:List Sg)(t:AF)(tol:Int)(ht:t.le 100000)(hl:l.length<=300):zd Tryz.prog 82 [.sl sgE l,.agg (afE t),i64 tol] [] (rgE (ym l t tol)) []:=by
 refine zlu 2 1 tok mix Tryz.func82 rfl rfl rfl Tryz.func123 rfl rfl ?_;refine ⟨_,_,rfl,?_⟩;refine ⟨_,_,_,_,_,rfl,rfl,rfl,rfl,?_⟩;refine ⟨_,rfl,rfl,rfl,?_⟩;refine zb.t (zzc l t ht hl) ?_;have fs:=zdq (trans t l).1 tol;refine Br.mk (fun e1=>?_) (fun e1=>?_)
 ·have e1:¬(trans t l).2=0:=e1;refine ⟨_,.refl,rfl,?_⟩;refine Br.mk (fun _=>?_) (fun h=>absurd e1 h);exact yP (by unfold ym;rw [if_pos e1])
 have e1:(trans t l).2=0:=Decidable.not_not.1 e1;refine zb.t (zw9 (trans t l).1 tol) ?_;refine Dr.d ?_;refine zb.t (zwL (kr (trans t l).1 tol).1 fs.1 fs.2) ?_;refine Ob.mk (by kernel_rfl) ?_;refine ⟨_,.refl,rfl,?_⟩;refine Br.mk (fun e2=>?_) (fun e2=>?_)
 ·have e2:¬(kr (trans t l).1 tol).2=0:=e2;exact yP (by unfold ym;rw [jQ e1,if_pos e2])
 ·have e2:(kr (trans t l).1 tol).2=0:=Decidable.not_not.1 e2;have e:ym l t tol=(yM (kr (trans t l).1 tol).1,0):=by unfold ym;rw [jQ e1,jQ e2]
  rw [e];exact zU .refl (zj e2)
theorem zqT(pen:Pen):(yx ⟨[],false⟩ pen).2=if qa pen then 0 else 13:=by
 have hl:qr ⟨[],false⟩=0:=zoG dC;unfold yx
 by_cases k:qa pen
 ·rw [qo k,if_pos k,if_neg (show ¬¬∀q∈(⟨[],false⟩:Pl).pts,zn q from fun h=>h fun q hq=>by cases hq),if_neg (show ¬4096 < (⟨[],false⟩:Pl).pts.length by decide),hl]
  split
  ·rfl
  ·rw [zo4 (.inr dC)];rfl
 ·rw [if_pos k,if_neg k]
theorem zzM(pen:Pen):zd Tryz.prog 155 [.agg [.val (.slice none 0 0),.val (.bool false)],.agg (ue pen)] [] (zt5 (yx ⟨[],false⟩ pen)) []:=
 (zxv ⟨[],false⟩ pen (Nat.zero_le _)).args (.cons (qK (.cons zC (.cons (ze (show ¬(false=true) by decide)) .nil))) (.cons .refl .nil))
theorem zdr:∀{l:List (List Pt)} {r:List Pt},r∈l->r.length<=qh l
 | x::s,r,h=>by
  rw [zfQ]
  cases h with
  | head=>omega
  | tail _ h=>have:=zdr h;omega
def zds(t:AF):List Pt->Int
 | []=>0
 | p::r=>if (kT t p).2≠0 then (kT t p).2 else zds t r
def zcl(t:AF)(l:List Pt):List Pt:=l.map fun p=>(kT t p).1
def zej(t:AF):List (List Pt)->Int
 | []=>0
 | r::s=>if zds t r≠0 then zds t r else zej t s
def vg(rs:List (List Pt))(t:AF):List (List Pt)×Int:=
 if ¬kq rs then ([],12) else if zej t rs≠0 then ([],zej t rs) else (rs.map (zcl t),0)
theorem zmW{t:AF}:∀{l:List Pt},(∀p∈l,(kT t p).2=0)->zds t l=0
 | [],_=>rfl
 | p::r,h=>by unfold zds;rw [jQ (h p (.head _))];exact zmW fun q hq=>h q (.tail _ hq)
theorem zmX{t:AF}:∀{l:List Pt} {i:Nat} {x:Pt},l[i]? =some x->(∀p∈l.take i,(kT t p).2=0)->¬(kT t x).2=0->zds t l=(kT t x).2
 | p::r,0,x,h,_,hx=>by cases h;unfold zds;rw [if_pos hx]
 | p::r,i+1,x,h,ha,hx=>by
  unfold zds;rw [jQ (ha p (by rw [List.take_succ_cons];exact .head _))];exact zmX (l:=r) (i:=i) h (fun q hq=>ha q (by rw [List.take_succ_cons];exact .tail _ hq)) hx
theorem zsr{t:AF}:∀{l:List (List Pt)},(∀r∈l,zds t r=0)->zej t l=0
 | [],_=>rfl
 | p::r,h=>by unfold zej;rw [jQ (h p (.head _))];exact zsr fun q hq=>h q (.tail _ hq)
theorem zmY{t:AF}:∀{l:List (List Pt)} {i:Nat} {x:List Pt},l[i]? =some x->(∀r∈l.take i,zds t r=0)->¬zds t x=0->zej t l=zds t x
 | p::r,0,x,h,_,hx=>by cases h;unfold zej;rw [if_pos hx]
 | p::r,i+1,x,h,ha,hx=>by
  unfold zej;rw [jQ (ha p (by rw [List.take_succ_cons];exact .head _))];exact zmY (l:=r) (i:=i) h (fun q hq=>ha q (by rw [List.take_succ_cons];exact .tail _ hq)) hx
theorem vw{α:Type}{P:α->Prop}{l:List α}{i:Nat}{x:α}(h:l[i]? =some x)(ha:∀p∈l.take i,P p)(hx:P x):∀p∈l.take (i+1),P p:=by
 intro p hp;rw [List.take_add_one,h] at hp
 rcases List.mem_append.1 hp with hp | hp
 ·exact ha p hp
 ·simp at hp;rw [hp];exact hx
def yR(l:List (List Pt)):List (List SV):=l.map zu
theorem uP(l:List (List Pt)):(yR l).length=l.length:=by unfold yR;simp
theorem vR{tb:List (Nat×Option Nat)}{l m:List (List Pt)}(e:l=m):
  (yR m).length=(yR l).length/\∀(j:Nat) x,(yR l)[j]? =some x->∃x',(yR m)[j]? =some x'/\ren.rens tb x=some x':=by
 subst e;refine ⟨rfl,fun j x hx=>⟨x,hx,?_⟩⟩;unfold yR at hx;rw [List.getElem?_map] at hx
 cases hy:l[j]? with
 | none=>rw [hy] at hx;cases hx
 | some y=>rw [hy] at hx;cases hx;rfl
theorem zjx{L:List (List Pt)}{q:List Pt}{a:Nat}:∀(i j:Nat) (x':List SV) (s':SV),(yR (L++[q]))[i]? =some x'->x'[j]? =some s'->∃(x:List SV) (s:SV),(yR L++[[.own a]])[i]? =some x/\x[j]? =some s/\(s'=s∨(s=.own a/\s'=.sl ptE q)):=by
 intro i j x' s' hx hs;have e:yR (L++[q])=yR L++[zu q]:=by unfold yR;rw [List.map_append];rfl
 rw [e] at hx;generalize yR L=R at*
 rcases Nat.lt_trichotomy i R.length with h | h | h
 ·rw [List.getElem?_append_left h] at hx;exact ⟨x',s',by rw [List.getElem?_append_left h];exact hx,hs,.inl rfl⟩
 ·subst h;rw [List.getElem?_concat_length] at hx
  cases hx
  match j,hs with
  | 0,hs=>cases hs;exact ⟨[.own a],.own a,List.getElem?_concat_length ..,rfl,.inr ⟨rfl,rfl⟩⟩
  | j+1,hs=>cases hs
 ·rw [List.getElem?_eq_none (by simp;omega)] at hx;cases hx
def kF(l:List AF):AF:=l.foldl beh idA
theorem zeU{l:List AF}{i:Nat}{x:AF}(h:l[i]? =some x):kF (l.take (i+1))=beh (kF (l.take i)) x:=by
 unfold kF;rw [List.take_add_one,h,List.foldl_append];rfl
def zjy(l:List AF):Prop:=(∀t∈l,t.ok)/\∀i,i < l.length->(kF (l.take (i+1))).ok
instance (l:List AF):Decidable (zjy l):=inferInstanceAs (Decidable (_/\∀i,i < l.length->_))
def qt(l:List AF):AF×Int:=if zjy l then (kF l,0) else (k7,5)
theorem zzN:idA.nrm=idA:=by unfold idA AF.nrm afQ;simp only [zV]
theorem zjz{l:List AF}:∀{i:Nat},i<=l.length->(∀k,k < i->(kF (l.take (k+1))).ok)->(kF (l.take i)).le 8
 | 0,_,_=>zmu.up dC
 | i+1,hi,h=>by
  have hk:=h i oM;have hx:l[i]? =some l[i]:=List.getElem?_eq_getElem oM;rw [zeU hx] at hk ⊢;exact ztr hk
theorem zuj(l:List AF):(kF l).nrm=kF l:=by
 rcases List.eq_nil_or_concat l with rfl | ⟨q,x,rfl⟩
 ·exact zzN
 ·unfold kF;rw [List.concat_eq_append,List.foldl_append];exact zmv _ _
theorem zjA(l:List AF)(hl:∀t∈l,t.le 100):zd Tryz.prog 45 [.sl afE l] [] (.tup [.agg (afE (qt l).1),i64 (qt l).2]) []:=by
 have bad:¬zjy l->LE (.tup [.agg yL,i64 5]) (.tup [.agg (afE (qt l).1),i64 (qt l).2]):=fun h=>by
  rw [show qt l=(k7,5) from if_neg h];exact zU zal .refl
 refine zc tok mix Tryz.func45 rfl rfl rfl ?_;refine zb.t zqh ?_;intro hl0
 refine ⟨Nat,fun i=>⟨[(12,i64 (i:Int)),(11,i64 (l.length:Int)),(10,.sl afE l),(4,.loc 1 0),(2,.loc 0 0),(0,.sl afE l)],[(1,.box 39 (afE idA)),(0,.box 39 yL)],2,37,0⟩,
  fun i=>i<=l.length/\∀t∈l.take i,t.ok,fun i=>l.length - i,0,⟨Nat.zero_le _,fun t ht=>by cases ht⟩,?_,?_⟩
 ·exact zf [(0,some 0),(1,some 1)]
 rintro i ⟨h1,h2⟩
 refine Br.mk (fun g=>?_) (fun g=>?_)
 ·have g:(i:Int) < l.length:=g;refine Ob.o ?_;intro x hx;have hx:l[i]? =some x:=hx;have hm:=List.mem_of_getElem? hx;refine zb.t (zb7 x ((hl x hm).up dC)) ?_;refine Br.mk (fun h=>bad fun k=>h (k.1 x hm)) (fun h=>?_);refine Ar.o ?_;exact ⟨i+1,⟨oM,vw hx h2 (Decidable.not_not.1 h)⟩,zf [(0,some 0),(1,some 1)],by dsimp only;omega⟩
 have g:¬(i:Int) < l.length:=g;rw [List.take_of_length_le oM] at h2;intro hl1
 refine ⟨Nat,fun i=>⟨[(23,i64 (i:Int)),(22,i64 (l.length:Int)),(21,.sl afE l),(4,.loc 1 0),(2,.loc 0 0)],[(1,.box 39 (afE (kF (l.take i)))),(0,.box 39 yL)],2,37,0⟩,
  fun i=>i<=l.length/\∀k,k < i->(kF (l.take (k+1))).ok,fun i=>l.length - i,0,⟨Nat.zero_le _,fun k h=>by omega⟩,?_,?_⟩
 ·exact zf [(0,some 0),(1,some 1)]
 rintro j ⟨j1,j2⟩
 have lj:=zjz j1 j2;refine Br.mk (fun g=>?_) (fun g=>?_)
 ·have g:(j:Int) < l.length:=g;refine Ob.o ?_;intro x hx;have hx:l[j]? =some x:=hx;have hm:=List.mem_of_getElem? hx;have e:=zeU hx;refine zb.t (zvU (kF (l.take j)) x (lj.up dC) ((hl x hm).up dC)) ?_;refine zb.t (zb7 (beh (kF (l.take j)) x) ((zvV (n:=100) (lj.up dC) (hl x hm)).up dC)) ?_;refine Br.mk (fun h=>bad fun k=>h (by rw [← e];exact k.2 j oM)) (fun h=>?_);have h:(beh (kF (l.take j)) x).ok:=Decidable.not_not.1 h;refine Ar.o ?_
  refine ⟨j+1,⟨oM,fun k hk=>?_⟩,zY [(0,some 0),(1,some 1)] ⟨congrArg (fun q=>some (Mem.box 39 (afE q))) e.symm,rfl,trivial⟩,by dsimp only;omega⟩
  by_cases c:k=j
  ·rw [c,e];exact h
  ·exact j2 k oM
 have g:¬(j:Int) < l.length:=g;have et:l.take j=l:=List.take_of_length_le oM;refine zb.t (zhb (kF (l.take j)) (lj.up dC)) ?_;rw [zuj];have ef:qt l=(kF (l.take j),0):=by rw [et];exact if_pos ⟨h2,fun k hk=>j2 k oM⟩
 rw [ef];exact zU .refl .refl
theorem zcm(l:List AF)(hl:∀t∈l,t.le 100):zd Tryz.prog 10 [.sl afE l] [] (.tup [.agg (afE (qt l).1),i64 (qt l).2]) []:=by
 have bad:¬zjy l->LE (.tup [.agg yL,i64 5]) (.tup [.agg (afE (qt l).1),i64 (qt l).2]):=fun h=>by
  rw [show qt l=(k7,5) from if_neg h];exact zU zal .refl
 refine zc tok mix Tryz.func10 rfl rfl rfl ?_;refine zb.t zfw ?_
 refine ⟨Nat,fun i=>⟨[(5,i64 (i:Int)),(4,.loc 1 0),(2,.loc 0 0),(0,.sl afE l)],[(1,.box 39 (afE (kF (l.take i)))),(0,.box 39 yL)],2,31,0⟩,
  fun i=>i<=l.length/\(∀t∈l.take i,t.ok)/\∀k,k < i->(kF (l.take (k+1))).ok,fun i=>l.length - i,0,⟨Nat.zero_le _,(fun t ht=>by cases ht),fun k h=>by omega⟩,?_,?_⟩
 ·exact zf [(0,some 0),(1,some 1)]
 rintro j ⟨j1,j0,j2⟩
 have lj:=zjz j1 j2;intro hl1;refine Br.mk (fun g=>?_) (fun g=>?_)
 ·have g:(j:Int) < l.length:=g;refine Ob.o ?_;intro x hx;have hx:l[j]? =some x:=hx;have hm:=List.mem_of_getElem? hx;have e:=zeU hx;refine zb.t (zdY x ((hl x hm).up dC)) ?_;refine Br.mk (fun h=>bad fun k=>h (k.1 x hm)) (fun h=>?_);refine Dr.k ?_;refine Ob.o ?_;intro y hy;have ey:y=x:=Option.some.inj ((show l[j]? =some y from hy).symm.trans hx);rw [ey];refine zb.t (zoe (kF (l.take j)) x (lj.up dC) ((hl x hm).up dC)) ?_;refine zb.t (zdY (beh (kF (l.take j)) x) ((zvV (n:=100) (lj.up dC) (hl x hm)).up dC)) ?_
  refine Br.mk (fun h=>bad fun k=>h (by rw [← e];exact k.2 j oM)) (fun h2=>?_);have h2:(beh (kF (l.take j)) x).ok:=Decidable.not_not.1 h2;refine Ar.o ?_;refine ⟨j+1,⟨oM,vw hx j0 (Decidable.not_not.1 h),fun k hk=>?_⟩,zY [(0,some 0),(1,some 1)] ⟨congrArg (fun q=>some (Mem.box 39 (afE q))) e.symm,rfl,trivial⟩,by dsimp only;omega⟩
  by_cases c:k=j
  ·rw [c,e];exact h2
  ·exact j2 k oM
 have g:¬(j:Int) < l.length:=g;have et:l.take j=l:=List.take_of_length_le oM;rw [et] at j0;have ef:qt l=(kF (l.take j),0):=by rw [et];exact if_pos ⟨j0,fun k hk=>j2 k oM⟩
 rw [ef];exact zU .refl .refl
structure Nd where
 id:Int
 k:Int
 d:Int
 t:AF
 clip:List Sg
 cr:Int
 op:Int
 mode:Int
 iso:Bool
 ko:Bool
 path:List Sg
 rule:Int
 fill:List Pnt
 pen:Pen
 strk:List Pnt
 im:Img
 smp:Int
def ndE(n:Nd):List SV:=
 i64 n.id::i64 n.k::i64 n.d::(afE n.t++(.sl sgE n.clip::i64 n.cr::u8 n.op::i64 n.mode::pr (n.iso=true)::pr (n.ko=true)::.sl sgE n.path::i64 n.rule::.sl jb n.fill::
  (ue n.pen++(.sl jb n.strk::(zjB n.im++[i64 n.smp])))))
structure Sc where
 w:Int
 h:Int
 bg:Pix
 ns:List Nd
def scE(s:Sc):List SV:=[i64 s.w,i64 s.h,u8 s.bg.r,u8 s.bg.g,u8 s.bg.b,u8 s.bg.a,.sl ndE s.ns]
def zbH(n:Nd):Prop:=n.op=0/\n.mode=0/\n.iso=false/\n.ko=false
instance (n:Nd):Decidable (zbH n):=inferInstanceAs (Decidable (_/\_))
def yT(p:Pen):Prop:=p.w=0/\p.j=0/\p.c=0/\p.m=0/\p.d=[]/\p.ph=0
instance (p:Pen):Decidable (yT p):=inferInstanceAs (Decidable (_/\_))
def zcz(n:Nd):Prop:=n.path.length=0/\n.rule=0/\n.fill.length=0/\n.strk.length=0
instance (n:Nd):Decidable (zcz n):=inferInstanceAs (Decidable (_/\_))
def zbI(n:Nd):Prop:=n.im.w=0/\n.im.h=0/\n.im.px.length=0/\n.smp=0
instance (n:Nd):Decidable (zbI n):=inferInstanceAs (Decidable (_/\_))
def zcn(r:Int):Prop:=r=1∨r=2
instance (r:Int):Decidable (zcn r):=inferInstanceAs (Decidable (_∨_))
def uI(n:Nd):Prop:=(n.clip.length=0/\n.cr=0)∨(0 < n.clip.length/\zcn n.cr)
instance (n:Nd):Decidable (uI n):=inferInstanceAs (Decidable (_∨_))
def zf1(n:Nd):Prop:=uI n/\(if n.k=1 then (zcz n/\yT n.pen)/\zbI n else if n.k=2 then zbH n/\zbI n else zbH n/\zcz n/\yT n.pen)
instance (n:Nd):Decidable (zf1 n):=by unfold zf1;infer_instance
def u4(n:Nd):Int:=
 if ¬qq n.path then 10 else if ¬zcn n.rule then 2 else if 1 < n.fill.length∨1 < n.strk.length then 5 else if 0 < n.strk.length/\¬qa n.pen then 13
 else if n.strk.length=0/\¬yT n.pen then 17 else if (¬∀p∈n.fill,u3 p)∨¬∀p∈n.strk,u3 p then 16 else 0
def yI(n:Nd):Int:=
 if n.k < 1∨3 < n.k then 2 else if n.id < 1∨1073741824 < n.id∨n.d < 0∨8<=n.d then 6 else if ¬n.t.ok then 5 else if yf n.t=0 then 9 else if ¬qq n.clip then 10
 else if ¬zf1 n then 17 else if n.k=1 then (if ¬(1<=n.mode/\n.mode<=13) then 2 else 0) else if n.k=2 then u4 n
 else if ¬zeu n.im then 16 else if n.smp≠1/\n.smp≠2 then 2 else 0
def jq(l:List Nd)(i:Nat)(n:Nd):Prop:=match l[i - 1]? with
 | some p=>if i=0 then n.d=0 else (p.k=1/\n.d=p.d+1)∨n.d<=p.d
 | none=>n.d=0
instance (l:List Nd) (i:Nat) (n:Nd):Decidable (jq l i n):=by unfold jq;split <;> infer_instance
def zf2(l:List Nd)(i:Nat)(n:Nd):Int:=
 if yI n≠0 then yI n else if n.id∈(l.take i).map Nd.id then 7 else if ¬jq l i n then 17 else 0
def uq(ds:List Int)(d:Int):Nat->Int
 | 0=> -1
 | k+1=>if ds[k]? =some d then k else uq ds d k
def yD(ds:List Int)(i:Nat):Int:=uq ds (ds.getD i 0 - 1) i
theorem zf3(ds:List Int)(d:Int):∀k,-1<=uq ds d k/\uq ds d k < k/\(0<=uq ds d k->ds[(uq ds d k).toNat]? =some d)
 | 0=>⟨Int.le_refl _,show (-1:Int) < 0 by decide,fun h=>absurd (show (0:Int)<= -1 from h) dC⟩
 | k+1=>by
  have ih:=zf3 ds d k;unfold uq
  split
  ·rename_i h;exact ⟨oM,oM,fun _=>by simpa using h⟩
  ·exact ⟨ih.1,oM,ih.2.2⟩
theorem zly{ds:List Int}{d:Int}:∀{k j:Nat},j < k->ds[j]? =some d->0<=uq ds d k
 | k+1,j,hj,h=>by
  unfold uq
  split
  ·omega
  ·rename_i hn
   by_cases e:j=k
   ·subst e;exact absurd h hn
   ·exact zly oM h
def zco(ds:List Int):Prop:=(∀d,ds[0]? =some d->d=0)/\(∀d∈ds,0<=d)/\∀i a b,ds[i]? =some a->ds[i+1]? =some b->b<=a+1
theorem zlz{ds:List Int}(h:zco ds){e:Int}(he:0<=e):∀{i:Nat} {d:Int},ds[i]? =some d->e < d->∃j,j < i/\ds[j]? =some e
 | 0,d,hd,hl=>by have:=h.1 d hd;omega
 | i+1,d,hd,hl=>by
  obtain ⟨a,ha⟩:∃a,ds[i]? =some a:=⟨_,List.getElem?_eq_getElem (by have:=(List.getElem?_eq_some_iff.1 hd).1;omega)⟩;have hs:=h.2.2 i a d ha hd
  by_cases c:a=e
  ·exact ⟨i,oM,by rw [ha,c]⟩
  ·obtain ⟨j,h1,h2⟩:=zlz h he ha oM;exact ⟨j,oM,h2⟩
theorem zdw{ds:List Int}(h:zco ds){i:Nat}{d:Int}(hd:ds[i]? =some d):(d=0->yD ds i= -1)/\(0 < d->∃j:Nat,yD ds i=j/\j < i/\ds[j]? =some (d - 1)):=by
 have hg:ds.getD i 0=d:=by rw [List.getD_eq_getElem?_getD,hd];rfl
 unfold yD;rw [hg];obtain ⟨h1,h2,h3⟩:=zf3 ds (d - 1) i;refine ⟨fun e=>?_,fun hp=>?_⟩
 ·subst e;refine Int.le_antisymm (Int.not_lt.1 fun k=>?_) h1;have:=h.2.1 _ (List.mem_of_getElem? (h3 oM));omega
 ·obtain ⟨j,hj,hjd⟩:=zlz h (show 0<=d - 1 by omega) hd oM;have:=zly hj hjd;exact ⟨(uq ds (d - 1) i).toNat,oM,oM,h3 this⟩
def zeX(ds:List Int):Nat->Int->List Nat
 | 0,_=>[]
 | n+1,i=>if i < 0 then [] else i.toNat::zeX ds n (yD ds i.toNat)
theorem zxG(n:Int):zd Tryz.prog 215 [i64 n] [] (pr (zcn n)) []:=by
 refine zc tok mix Tryz.func215 rfl rfl rfl ?_;refine Br.mk (fun h=>?_) (fun h=>?_)
 ·exact zP (.inl h)
 ·exact zF ⟨.inr,fun k=>k.resolve_left h⟩
theorem zxH(xs ys:List Int):zd Tryz.prog 297 [.sl uR xs,.sl uR ys] [] (pr (xs=ys)) []:=by
 refine zc tok mix Tryz.func297 rfl rfl rfl ?_;intro hl1 hl2;refine Br.mk (fun h1=>ze fun e=>h1 (by rw [e])) (fun h1=>?_);have h1:=Decidable.not_not.1 h1;intro hl3;refine ⟨Int,fun i=>⟨[(13,i64 i),(12,i64 xs.length),(0,.sl uR xs),(1,.sl uR ys)],[],0,26,0⟩,fun i=>0<=i/\i<=xs.length/\∀j:Nat,(j:Int) < i->xs[j]? =ys[j]?,fun i=>((xs.length:Int) - i).toNat,0,?_,?_,?_⟩
 ·exact ⟨oM,oM,fun j hj=>by omega⟩
 ·exact zf []
 rintro i ⟨h4,h5,h6⟩
 refine Br.mk (fun h7=>?_) (fun h7=>?_)
 ·refine Dr.k ?_;refine Ob.o ?_;intro x hx;refine Ob.o ?_;intro y hy;refine Br.mk (fun h8=>?_) (fun h8=>?_)
  ·refine ze fun e=>h8 ?_
   subst e;rw [hx] at hy;exact Option.some.inj hy
  ·refine Ar.o ?_;refine ⟨i+1,⟨oM,oM,fun j hj=>?_⟩,zf [],by dsimp only;omega⟩
   by_cases e:j=i.toNat
   ·subst e;rw [hx,hy,Decidable.not_not.1 h8]
   ·exact h6 j oM
 ·exact zP (List.ext_getElem? fun j=>by
   by_cases hj:(j:Int) < i
   ·exact h6 j hj
   ·rw [List.getElem?_eq_none oM,List.getElem?_eq_none oM])
def zPen:Pen:=⟨0,0,0,0,[],0⟩
theorem zzT:LE (.agg [i64 0,i64 0,i64 0,i64 0,.val (.slice none 0 0),i64 0]) (.agg (ue zPen)):=qK (.cons .refl (.cons .refl (.cons .refl (.cons .refl (.cons zC (.cons .refl .nil))))))
def zImg:Img:=⟨0,0,[]⟩
theorem zzU:LE (.agg [i64 0,i64 0,.val (.slice none 0 0)]) (.agg (zjB zImg)):=qK (.cons .refl (.cons .refl (.cons zC .nil)))
def zhU(a b:Pen):Prop:=a.w=b.w/\a.j=b.j/\a.c=b.c/\a.m=b.m/\a.ph=b.ph/\a.d=b.d
instance (a b:Pen):Decidable (zhU a b):=inferInstanceAs (Decidable (_/\_))
theorem zuo{p:Pen}:zhU p zPen↔yT p:=by
 unfold zhU yT zPen;constructor
 ·rintro ⟨h1,h2,h3,h4,h5,h6⟩;exact ⟨h1,h2,h3,h4,h6,h5⟩
 ·rintro ⟨h1,h2,h3,h4,h5,h6⟩;exact ⟨h1,h2,h3,h4,h6,h5⟩
theorem zup(a b:Pen):zd Tryz.prog 261 [.agg (ue a),.agg (ue b)] [] (pr (zhU a b)) []:=by
 refine zc tok mix Tryz.func261 rfl rfl rfl ?_;refine Br.mk (fun h1=>?_) (fun h1=>ze fun k=>h1 k.1);refine Br.mk (fun h2=>?_) (fun h2=>ze fun k=>h2 k.2.1);refine Br.mk (fun h3=>?_) (fun h3=>ze fun k=>h3 k.2.2.1);refine Br.mk (fun h4=>?_) (fun h4=>ze fun k=>h4 k.2.2.2.1);refine Br.mk (fun h5=>?_) (fun h5=>ze fun k=>h5 k.2.2.2.2.1);refine zb.t (zxH a.d b.d) ?_;exact zF ⟨fun h=>⟨h1,h2,h3,h4,h5,h⟩,fun k=>k.2.2.2.2.2⟩
theorem zsw(a:Pen):zd Tryz.prog 261 [.agg (ue a),.agg [i64 0,i64 0,i64 0,i64 0,.val (.slice none 0 0),i64 0]] [] (pr (yT a)) []:=
 ((zup a zPen).args (.cons .refl (.cons zzT .nil))).le (zF zuo)
theorem zB2(t:AF)(ht:t.le 10000000):zd Tryz.prog 218 [.agg (afE t)] [] (pr (yf t=0)) []:=by
 refine zc tok mix Tryz.func218 rfl rfl rfl ?_;refine zb.t (zha t ht) ?_;refine zb.t (ye 0 (by constructor <;> decide)) ?_;have hcmp:=zfv (ofQ (yf t)) (ofQ ((0:Int):Rat)) (by have:=zf0 ht;rw [zz];omega) (by decide +kernel);rw [zV,zV] at hcmp;refine zb.t hcmp ?_;exact zF (Decidable.not_iff_not.1 (uo _))
def uh(l:List Pnt):Prop:=∀p∈l,u3 p
instance (l:List Pnt):Decidable (uh l):=inferInstanceAs (Decidable (∀p∈l,_))
def zdx(l:List Pnt):Prop:=∀p∈l,p.t.le 1000/\p.im.px.length<=9223372036854775807
def zqY(l:List Pnt):Int:=match l.findIdx? (fun p=>¬u3 p) with | some i=>i | none=> -1
theorem zzV{l:List Pnt}{i:Nat}{x:Pnt}(h:∀(j:Nat) q,j < i->l[j]? =some q->u3 q)(hx:l[i]? =some x)(hb:¬u3 x):zqY l=i:=by
 have:l.findIdx? (fun p=>¬u3 p)=some i:=by
  rw [List.findIdx?_eq_some_iff_getElem];have hi:=(List.getElem?_eq_some_iff.1 hx);refine ⟨hi.1,by rw [hi.2];simpa using hb,fun j hj=>?_⟩;have:=h j _ hj (List.getElem?_eq_getElem (by have:=hi.1;omega))
  simpa using this
 unfold zqY;rw [this]
theorem zlA{l:List Pnt}(h:∀p∈l,u3 p):zqY l= -1:=by
 have:l.findIdx? (fun p=>¬u3 p)=none:=by
  rw [List.findIdx?_eq_none_iff];intro p hp;simpa using h p hp
 unfold zqY;rw [this]
theorem zpe{l:List Pnt}:0<=zqY l↔¬uh l:=by
 by_cases h:uh l
 ·rw [zlA h];exact ⟨fun k=>by omega,fun k=>absurd h k⟩
 ·refine ⟨fun _=>h,fun _=>?_⟩;unfold zqY
  cases hf:l.findIdx? (fun p=>¬u3 p) with
  | some i=>exact Int.natCast_nonneg i
  | none=>rw [List.findIdx?_eq_none_iff] at hf;exact absurd (fun p hp=>by simpa using hf p hp) h
theorem zB3(p:Pnt)(hp:p.t.le 1000)(hl:p.im.px.length<=9223372036854775807):zd Tryz.prog 300 [.agg (jb p)] [] (pr (¬u3 p)) []:=by
 refine zc tok mix Tryz.func300 rfl rfl rfl ?_;refine zb.t (zqX p hp hl) ?_;exact zF Iff.rfl
theorem zzW(xs:List Pnt)(ht:zdx xs):zd Tryz.prog 329 [.sl jb xs,.fn 300 []] [] (i64 (zqY xs)) []:=by
 refine zc tok mix Tryz.func329 rfl rfl rfl ?_;intro hl0;refine ⟨Int,fun i=>⟨[(8,i64 i),(7,i64 xs.length),(0,.sl jb xs),(1,.fn 300 [])],[],0,19,0⟩,fun i=>0<=i/\i<=xs.length/\∀(j:Nat) q,(j:Int) < i->xs[j]? =some q->u3 q,fun i=>((xs.length:Int) - i).toNat,0,?_,?_,?_⟩
 ·exact ⟨oM,oM,fun j q hj=>by omega⟩
 ·exact zf []
 rintro i ⟨h1,h2,h3⟩
 refine Br.mk (fun h4=>?_) (fun h4=>?_)
 ·refine Ob.o ?_;intro x hx;have hm:=ht x (List.mem_of_getElem? hx);refine zb.t (zB3 x hm.1 hm.2) ?_;refine Br.mk (fun h5=>?_) (fun h5=>?_)
  ·refine zj ?_;rw [zzV (i:=i.toNat) (fun j q hj=>h3 j q oM) hx h5];omega
  ·refine Ar.o ?_;refine ⟨i+1,⟨oM,oM,fun j q hj hq=>?_⟩,zf [],by dsimp only;omega⟩
   by_cases e:j=i.toNat
   ·subst e;rw [hx] at hq;cases hq;exact Decidable.not_not.1 h5
   ·exact h3 j q oM hq
 ·refine zj (zlA fun p hp=>?_).symm;obtain ⟨j,hj,he⟩:=List.getElem_of_mem hp;exact h3 j p oM (by rw [← he];exact List.getElem?_eq_getElem hj)
theorem zqZ(xs:List Pnt)(ht:zdx xs):zd Tryz.prog 299 [.sl jb xs,.fn 300 []] [] (pr (¬uh xs)) []:=by
 refine zc tok mix Tryz.func299 rfl rfl rfl ?_;refine zb.t (zzW xs ht) ?_;exact zF zpe
theorem zAM(xs:List Pnt)(ht:zdx xs):zd Tryz.prog 263 [.sl jb xs] [] (pr (uh xs)) []:=by
 refine zc tok mix Tryz.func263 rfl rfl rfl ?_;refine zb.t (zqZ xs ht) ?_;exact zF Decidable.not_not
def u5(n:Nd):Prop:=if n.k=1 then (zcz n/\yT n.pen)/\zbI n else if n.k=2 then zbH n/\zbI n else zbH n/\zcz n/\yT n.pen
instance (n:Nd):Decidable (u5 n):=by unfold u5;infer_instance
theorem zm1{n:Nd}:zbI n↔n.im=zImg/\n.smp=0:=by
 unfold zbI zImg
 rcases n with ⟨id,k,d,t,clip,cr,op,mode,iso,ko,path,rule,fill,pen,strk,⟨w,h,px⟩,smp⟩
 simp only [Img.mk.injEq,List.length_eq_zero_iff];constructor
 ·rintro ⟨h1,h2,h3,h4⟩;exact ⟨⟨h1,h2,h3⟩,h4⟩
 ·rintro ⟨⟨h1,h2,h3⟩,h4⟩;exact ⟨h1,h2,h3,h4⟩
theorem zB4(n:Nd):zd Tryz.prog 219 [.agg (ndE n)] [] (pr (u5 n)) []:=by
 refine zb5 tok Tryz.func219 rfl rfl rfl (zcC.cut tok mix 2 (fun _:Unit=>⟨[(3,pr (zbH n)),(1,.loc 0 0)],[(0,.box 51 (ndE n))],1,78,0⟩) (fun _=>True) ?_ fun _ _=>
  zcC.cut tok mix 1 (fun _:Unit=>⟨[(4,pr (zcz n/\yT n.pen)),(3,pr (zbH n)),(1,.loc 0 0)],[(0,.box 51 (ndE n))],1,78,0⟩) (fun _=>True) ?_ fun _ _=>
  zcC.cut tok mix 1 (fun _:Unit=>⟨[(5,pr (zbI n)),(4,pr (zcz n/\yT n.pen)),(3,pr (zbH n)),(1,.loc 0 0)],[(0,.box 51 (ndE n))],1,78,0⟩) (fun _=>True) ?_ fun _ _=>zcC.vc tok mix ?_)
 ·refine Br.mk (fun h1=>?_) (fun h1=>⟨(),trivial,(qW (t:=3) rfl (ze fun k=>h1 k.1)).trans (qw [(0,some 0)] rfl rfl rfl ⟨rfl,rfl,trivial⟩ ⟨rfl,trivial⟩)⟩);refine Br.mk (fun h2=>?_) (fun h2=>⟨(),trivial,(qW (t:=3) rfl (ze fun k=>h2 k.2.1)).trans (qw [(0,some 0)] rfl rfl rfl ⟨rfl,rfl,trivial⟩ ⟨rfl,trivial⟩)⟩);refine Br.mk (fun h3=>?_) (fun h3=>⟨(),trivial,(qW (t:=3) rfl (ze fun k=>h3 (by rw [k.2.2.1];decide))).trans (qw [(0,some 0)] rfl rfl rfl ⟨rfl,rfl,trivial⟩ ⟨rfl,trivial⟩)⟩)
  exact ⟨(),trivial,(qW (t:=3) rfl (zF ⟨fun h=>⟨h1,h2,by simpa using h3,by simpa using h⟩,fun k=>by rw [k.2.2.2];decide⟩)).trans (qw [(0,some 0)] rfl rfl rfl ⟨rfl,rfl,trivial⟩ ⟨rfl,trivial⟩)⟩
 ·intro hl1;refine Br.mk (fun h1=>?_) (fun h1=>⟨(),trivial,(qW (t:=4) rfl (ze fun k=>h1 (by have:=k.1.1;omega))).trans (qw [(0,some 0)] rfl rfl rfl ⟨rfl,rfl,rfl,trivial⟩ ⟨rfl,trivial⟩)⟩);refine Br.mk (fun h2=>?_) (fun h2=>⟨(),trivial,(qW (t:=4) rfl (ze fun k=>h2 k.1.2.1)).trans (qw [(0,some 0)] rfl rfl rfl ⟨rfl,rfl,rfl,trivial⟩ ⟨rfl,trivial⟩)⟩);intro hl2;refine Br.mk (fun h3=>?_) (fun h3=>⟨(),trivial,(qW (t:=4) rfl (ze fun k=>h3 (by have:=k.1.2.2.1;omega))).trans (qw [(0,some 0)] rfl rfl rfl ⟨rfl,rfl,rfl,trivial⟩ ⟨rfl,trivial⟩)⟩)
  intro hl3;refine Br.mk (fun h4=>?_) (fun h4=>⟨(),trivial,(qW (t:=4) rfl (ze fun k=>h4 (by have:=k.1.2.2.2;omega))).trans (qw [(0,some 0)] rfl rfl rfl ⟨rfl,rfl,rfl,trivial⟩ ⟨rfl,trivial⟩)⟩);refine zb.t (zsw n.pen) ?_;exact ⟨(),trivial,(qW (t:=4) rfl (zF ⟨fun h=>⟨⟨oM,h2,oM,oM⟩,h⟩,fun k=>k.2⟩)).trans (qw [(0,some 0)] rfl rfl rfl ⟨rfl,rfl,rfl,trivial⟩ ⟨rfl,trivial⟩)⟩
 ·refine zb.t ((zlw n.im zImg).args (.cons .refl (.cons zzU .nil))) ?_;refine Br.mk (fun h1=>?_) (fun h1=>⟨(),trivial,(qW (t:=5) rfl (ze fun k=>h1 (zm1.1 k).1)).trans (qw [(0,some 0)] rfl rfl rfl ⟨rfl,rfl,rfl,rfl,trivial⟩ ⟨rfl,trivial⟩)⟩);exact ⟨(),trivial,(qW (t:=5) rfl (zF ⟨fun h=>zm1.2 ⟨h1,h⟩,fun k=>(zm1.1 k).2⟩)).trans (qw [(0,some 0)] rfl rfl rfl ⟨rfl,rfl,rfl,rfl,trivial⟩ ⟨rfl,trivial⟩)⟩
 ·refine Br.mk (fun k1=>?_) (fun k1=>?_)
  ·have e:u5 n↔(zcz n/\yT n.pen)/\zbI n:=by unfold u5;rw [if_pos k1]
   exact Br.mk (fun a=>zF ⟨fun h=>e.2 ⟨a,h⟩,fun k=>(e.1 k).2⟩) (fun a=>ze fun k=>a (e.1 k).1)
  refine Br.mk (fun k2=>?_) (fun k2=>?_)
  ·have e:u5 n↔zbH n/\zbI n:=by unfold u5;rw [if_neg k1,if_pos k2]
   exact Br.mk (fun a=>zF ⟨fun h=>e.2 ⟨a,h⟩,fun k=>(e.1 k).2⟩) (fun a=>ze fun k=>a (e.1 k).1)
  ·have e:u5 n↔zbH n/\zcz n/\yT n.pen:=by unfold u5;rw [if_neg k1,if_neg k2]
   exact Br.mk (fun a=>zF ⟨fun h=>e.2 ⟨a,h⟩,fun k=>(e.1 k).2⟩) (fun a=>ze fun k=>a (e.1 k).1)
def zpf(n:Nd):Prop:=n.k < 1∨3 < n.k
instance (n:Nd):Decidable (zpf n):=inferInstanceAs (Decidable (_∨_))
def zkm(n:Nd):Prop:=n.id < 1∨1073741824 < n.id∨n.d < 0∨8<=n.d
instance (n:Nd):Decidable (zkm n):=inferInstanceAs (Decidable (_∨_))
def zcp(n:Nd):Er:=zaF [kJ (zpf n) 2,kJ (zkm n) 6,kJ (¬n.t.ok) 5,kJ (yf n.t=0) 9,kJ (¬qq n.clip) 10,kJ (¬uI n∨¬u5 n) 17]
theorem zxI(n:Nd)(ht:n.t.le 1000):zd Tryz.prog 163 [.agg (ndE n)] [] (.op (erV (zcp n))) []:=by
 refine zb5 tok Tryz.func163 rfl rfl rfl (zcC.cut tok mix 2 (fun _:Unit=>⟨[(3,pr (uI n)),(1,.loc 0 0)],[(0,.box 51 (ndE n))],1,76,0⟩) (fun _=>True) ?_ fun _ _=>zcC.vc tok mix ?_)
 ·intro hl1;refine Br.mk (fun h1=>?_) (fun h1=>?_)
  ·refine Br.mk (fun h2=>⟨(),trivial,(qW (t:=3) rfl (zP (.inl ⟨oM,h2⟩))).trans (qw [(0,some 0)] rfl rfl rfl ⟨rfl,rfl,trivial⟩ ⟨rfl,trivial⟩)⟩) (fun h2=>?_);intro hl2;refine Br.mk (fun h3=>?_) (fun h3=>⟨(),trivial,(qW (t:=3) rfl (ze fun k=>k.elim (fun k=>h2 k.2) fun k=>by have:=k.1;omega)).trans (qw [(0,some 0)] rfl rfl rfl ⟨rfl,rfl,trivial⟩ ⟨rfl,trivial⟩)⟩);omega
  ·intro hl2;refine Br.mk (fun h3=>?_) (fun h3=>?_)
   ·refine zb.t (zxG n.cr) ?_;exact ⟨(),trivial,(qW (t:=3) rfl (zF ⟨fun h=>.inr ⟨oM,h⟩,fun k=>k.elim (fun k=>by have:=k.1;omega) fun k=>k.2⟩)).trans (qw [(0,some 0)] rfl rfl rfl ⟨rfl,rfl,trivial⟩ ⟨rfl,trivial⟩)⟩
   ·omega
 ·refine Dr.d ?_;refine Br.mk (fun a1=>?_) (fun a1=>?_)
  all_goals refine zb.t ((yn (zpf n) 2).args (.cons (by first | exact zP (.inl a1) | exact zF ⟨.inr,fun k=>k.resolve_left a1⟩) LEs.refl)) ?_
  all_goals (refine Br.mk (fun b1=>?_) (fun b1=>?_);rotate_left;refine Br.mk (fun b2=>?_) (fun b2=>?_);rotate_left;refine Br.mk (fun b3=>?_) (fun b3=>?_))
  all_goals refine zb.t ((yn (zkm n) 6).args (.cons (by first | exact zP (by unfold zkm;omega) | exact zF (by unfold zkm;constructor <;> intro <;> omega)) LEs.refl)) ?_
  all_goals refine zb.t (zb7 n.t (ht.up dC)) ?_
  all_goals refine zb.t (yn (¬n.t.ok) 5) ?_
  all_goals refine zb.t (zB2 n.t (ht.up dC)) ?_
  all_goals refine zb.t (yn (yf n.t=0) 9) ?_
  all_goals refine zb.t (zhO n.clip) ?_
  all_goals refine zb.t (yn (¬qq n.clip) 10) ?_
  all_goals refine Br.mk (fun c1=>?_) (fun c1=>?_)
  all_goals first
   | refine zb.t ((yn (¬uI n∨¬u5 n) 17).args (.cons (zP (.inl c1)) LEs.refl)) ?_
   | (refine zb.t (zB4 n) ?_;refine zb.t ((yn (¬uI n∨¬u5 n) 17).args (.cons (zF ⟨.inr,fun k=>k.resolve_left c1⟩) LEs.refl)) ?_)
  all_goals refine ⟨Er,zvw,[kJ (zpf n) 2,kJ (zkm n) 6,kJ (¬n.t.ok) 5,kJ (yf n.t=0) 9,kJ (¬qq n.clip) 10,kJ (¬uI n∨¬u5 n) 17],rfl,Ob.o14 ?_⟩
  all_goals refine zb.see 1 _ (zmf [kJ (zpf n) 2,kJ (zkm n) 6,kJ (¬n.t.ok) 5,kJ (yf n.t=0) 9,kJ (¬qq n.clip) 10,kJ (¬uI n∨¬u5 n) 17]) rfl rfl rfl ?_
  all_goals refine Ob.mk (by kernel_rfl) ?_
  all_goals exact .refl
end Go.Gs
