/- Outlines: dashed lines one after the other, margins, counts. -/
import Derived.Test.YtbgnkgoiocjbnaaGreatMA
import Derived.Test.YtbgnkgoiocjbnaaGreatMBU
import Derived.Test.YtbgnkgoiocjbnaaGreatMBR
set_option maxRecDepth 100000
set_option maxHeartbeats 8000000
set_option linter.all false
namespace Go.Gs
open Go.Proofs
def qF:List Pl->Pen->List Pl×Int
 | [],_=>([],0)
 | p::r,pen=>if (jt p pen).2≠0 then ([],(jt p pen).2)
  else if (qF r pen).2≠0 then ([],(qF r pen).2) else ((jt p pen).1++(qF r pen).1,0)
def zkb(l:List Pl)(pen:Pen):List Pl:=l.flatMap fun p=>(jt p pen).1
theorem zp0{l:List Pl}{pen:Pen}{i:Nat}{x:Pl}(h:l[i]? =some x):zkb (l.take (i+1)) pen=zkb (l.take i) pen++(jt x pen).1:=by
 unfold zkb;rw [List.take_add_one,h,List.flatMap_append];simp
theorem zmh{pen:Pen}:∀{l:List Pl},(∀p∈l,(jt p pen).2=0)->qF l pen=(zkb l pen,0)
 | [],_=>rfl
 | p::r,h=>by
  have ih:=zmh fun q hq=>h q (.tail _ hq)
  unfold qF;rw [kF (h p (.head _)),ih];rfl
theorem ziW{pen:Pen}:∀{l:List Pl} {i:Nat} {x:Pl},l[i]? =some x->(∀p∈l.take i,(jt p pen).2=0)->¬(jt x pen).2=0->qF l pen=([],(jt x pen).2)
 | p::r,0,x,h,_,hx=>by
  cases h
  unfold qF;rw [if_pos hx]
 | p::r,i+1,x,h,ha,hx=>by
  have ih:=ziW (l:=r) (i:=i) h (fun q hq=>ha q (by rw [List.take_succ_cons];exact .tail _ hq)) hx;unfold qF;rw [kF (ha p (by rw [List.take_succ_cons];exact .head _)),ih];exact if_pos hx
theorem zhn:∀{l:List Pl} {q:Pl},q∈l->q.pts.length<=qQ l
 | x::r,q,h=>by
  have e:qQ (x::r)=x.pts.length+qQ r:=by unfold qQ;simp
  rw [e]
  cases h with
  | head=>omega
  | tail _ h=>have:=zhn h;omega
theorem zb6{p:Pl}{pen:Pen}(hp:p.pts.length<=4096):(jt p pen).1.length<=4096/\∀q∈(jt p pen).1,q.pts.length<=4096:=by
 unfold jt
 split
 ·exact ⟨Nat.zero_le _,fun q hq=>by cases hq⟩
 split
 ·exact ⟨Nat.zero_le _,fun q hq=>by cases hq⟩
 split
 ·exact ⟨Nat.zero_le _,fun q hq=>by cases hq⟩
 split
 ·refine ⟨by show 1<=4096;decide,fun q hq=>?_⟩;rw [List.mem_singleton.1 hq];have:=yM p;omega
 split
 ·exact ⟨Nat.zero_le _,fun q hq=>by cases hq⟩
 ·rename_i h
  have hg:=zfF (l:=(qh pen (qf p)).map (ya p)) fun x hx=>by
   obtain ⟨q,hq,rfl⟩:=List.mem_map.1 hx;exact (zeJ hp hq).1
  refine ⟨by dsimp only;omega,fun q hq=>?_⟩;have hq:q∈(qh pen (qf p)).map (ya p):=hq;have:=zhn hq;omega
theorem zho{pen:Pen}:∀{l:List Pl},(∀p∈l,p.pts.length<=4096)->(zkb l pen).length<=4096*l.length/\∀q∈zkb l pen,q.pts.length<=4096
 | [],_=>⟨Nat.le_refl 0,fun q hq=>by cases hq⟩
 | p::r,hl=>by
  obtain ⟨i1,i2⟩:=zho (pen:=pen) (l:=r) fun q hq=>hl q (.tail _ hq)
  obtain ⟨f1,f2⟩:=zb6 (pen:=pen) (hl p (.head _));have e:zkb (p::r) pen=(jt p pen).1++zkb r pen:=rfl;rw [e,List.length_append,List.length_cons];refine ⟨oM,fun q hq=>?_⟩
  rcases List.mem_append.1 hq with hq | hq
  ·exact f2 q hq
  ·exact i2 q hq
theorem zvI(l:List Pl)(pen:Pen)(hl:l.length<=4096)(hp:∀q∈l,q.pts.length<=4096):zd Tryz.prog 44 [.sl plE l,.agg (yi pen)] [] (zm9 (qF l pen)) []:=by
 refine zc tok mix Tryz.func44 rfl rfl rfl ?_;intro hl1;refine ⟨Nat,fun i=>⟨[(3,.loc 0 0),(6,.own 1),(11,.sl plE l),(12,i64 (l.length:Int)),(13,i64 (i:Int))],[(0,.box 42 (yi pen)),(1,.arr 85 plE 2 (zkb (l.take i) pen))],2,31,0⟩,fun i=>i<=l.length/\∀q∈l.take i,(jt q pen).2=0,fun i=>l.length - i,0,?_,?_,?_⟩
 ·exact ⟨Nat.zero_le _,fun q hq=>by cases hq⟩
 ·exact zh [(0,some 0),(1,none)]
 rintro i ⟨h1,h2⟩
 obtain ⟨f1,_⟩:=zho (pen:=pen) (l:=l.take i) fun q hq=>hp q (List.mem_of_mem_take hq)
 rw [List.length_take] at f1;refine Br.mk (fun g=>?_) (fun g=>?_)
 ·have g:(i:Int) < l.length:=g;refine Ob.o ?_;intro x hx;have hx:l[i]? =some x:=hx;have hpx:=hp x (List.mem_of_getElem? hx);refine zb.t (zsv x pen hpx) ?_;refine Br.mk (fun z=>?_) (fun z=>?_)
  ·have z:¬(jt x pen).2=0:=z;exact ju (ziW hx h2 z)
  have z:(jt x pen).2=0:=Decidable.not_not.1 z;obtain ⟨s1,s2⟩:=zb6 (pen:=pen) hpx;refine ⟨(jt x pen).1,rfl,Ob.o26 ?_⟩;refine Ar.o ?_;exact ⟨i+1,⟨oM,zhi hx h2 z⟩,zM [(0,some 0),(1,some 3)] ⟨rfl,congrArg (fun q=>some (Mem.arr 85 plE 2 q)) (zp0 hx).symm,trivial⟩,by dsimp only;omega⟩
 have g:¬(i:Int) < l.length:=g;have et:l.take i=l:=List.take_of_length_le oM;rw [et] at h2;rw [zmh h2];exact zS (qb (by rw [et])) .refl
theorem zsw(pen:Pen)(hk:k8 pen):zd Tryz.prog 62 [.agg (yi pen)] [] (i64 (kJ pen)) []:=by
 refine zc tok mix Tryz.func62 rfl rfl rfl ?_;obtain ⟨hw,_,_,hm,_⟩:=hk;unfold zX at hw;refine Ar.o ?_;refine Br.mk (fun j=>?_) (fun j=>?_)
 ·have j:pen.j=1:=j;have hp:=Int.mul_nonneg (show 0<=pen.w by omega) (show 0<=pen.m by omega);have hq:=Int.mul_le_mul (show pen.w<=16384 by omega) (show pen.m<=65536 by omega) oM dC;refine Ar.o ?_;refine Dv.pos ⟨oM,dC,(show pen.w*pen.m<=9223372036854775807 by omega)⟩ ?_;refine Ar.o ?_;refine zu ?_;unfold kJ;rw [if_pos j];rfl
 ·have j:¬pen.j=1:=j;refine zu ?_;unfold kJ;rw [if_neg j]
theorem ztX(rs:List (List Pt))(hs:(kN rs:Int)<=4611686018427387904):zd Tryz.prog 67 [.sl zw rs] [] (i64 (kN rs:Int)) []:=by
 refine zc tok mix Tryz.func67 rfl rfl rfl ?_;intro hl1;refine ⟨Nat,fun i=>⟨[(3,i64 (kN (rs.take i):Int)),(6,.sl zw rs),(7,i64 (rs.length:Int)),(8,i64 (i:Int))],[],0,18,0⟩,fun i=>i<=rs.length,fun i=>rs.length - i,0,?_,?_,?_⟩
 ·exact Nat.zero_le _
 ·exact zh []
 rintro i h1
 refine Br.mk (fun g=>?_) (fun g=>?_)
 ·have g:(i:Int) < rs.length:=g;refine Ob.o ?_;intro x hx;have hx:rs[i]? =some x:=hx;intro hl4;have c1:=zcr hx;have c2:=zfw rs (i+1);(iterate 2 refine Ar.o ?_);exact ⟨i+1,oM,z0 [] ⟨congrArg (fun n=>some (i64 n)) oM,rfl,rfl,rfl,trivial⟩ trivial,by dsimp only;omega⟩
 ·have g:¬(i:Int) < rs.length:=g;exact zu (by rw [List.take_of_length_le oM])
theorem zp5{l:List Sg}{tol:Int}(h:¬(zI l tol).2=0):(zI l tol).1=[]:=by
 unfold zI at h ⊢
 split at h <;> rename_i k1
 ·rw [if_pos k1]
 rw [if_neg k1]
 split at h <;> rename_i k2
 ·rw [if_pos k2]
 rw [if_neg k2]
 split at h <;> rename_i k3
 ·rw [if_pos k3]
 rw [if_neg k3]
 split at h <;> rename_i k4
 ·rw [if_pos k4]
 ·exact absurd rfl h
theorem v8(l:List Sg)(tol:Int):(zI l tol).1.length<=4096/\∀q∈(zI l tol).1,q.pts.length<=4096:=by
 by_cases h:(zI l tol).2=0
 ·have hv:qK l:=by
   refine Decidable.not_not.1 fun k=>?_
   unfold zI at h;rw [if_pos k] at h;exact absurd h dC
  obtain ⟨_,_,f3,f4⟩:=uH (lo:=⟨-1048576,-1048576⟩) (hi:=⟨1048576,1048576⟩) h (fun p hp=>zah hv p hp);have hg:=zfF (l:=(zI l tol).1) fun x hx=>Nat.pos_of_ne_zero fun e=>(f4 x hx).1 (List.eq_nil_of_length_eq_zero e)
  exact ⟨oM,fun q hq=>by have:=zhn hq;omega⟩
 ·rw [zp5 h];exact ⟨Nat.zero_le _,fun q hq=>by cases hq⟩
theorem u6(l:List Sg)(t:AF)(tol:Int)(ht:t.le 100000)(hl:l.length<=300):zd Tryz.prog 13 [.sl sgE l,.agg (afE t),i64 tol] [] (rgE (kq l t tol)) []:=by
 refine ziY 2 1 tok mix Tryz.func13 rfl rfl rfl Tryz.func36 rfl rfl ?_;refine ⟨_,_,rfl,?_⟩;refine ⟨_,_,_,_,_,rfl,rfl,rfl,rfl,?_⟩;refine ⟨_,rfl,rfl,rfl,?_⟩;refine zb.t (ztp l t ht hl) ?_;have fs:=v8 (kg t l).1 tol;refine Br.mk (fun e1=>?_) (fun e1=>?_)
 ·have e1:¬(kg t l).2=0:=e1;refine ⟨_,.refl,rfl,?_⟩;refine Br.mk (fun _=>?_) (fun h=>absurd e1 h);exact qT (by unfold kq;rw [if_pos e1])
 have e1:(kg t l).2=0:=Decidable.not_not.1 e1;refine zb.t (zsa (kg t l).1 tol) ?_;refine Dr.d ?_;refine zb.t (zrQ (zI (kg t l).1 tol).1 fs.1 fs.2) ?_;refine Ob.mk (by kernel_rfl) ?_;refine ⟨_,.refl,rfl,?_⟩;refine Br.mk (fun e2=>?_) (fun e2=>?_)
 ·have e2:¬(zI (kg t l).1 tol).2=0:=e2;exact qT (by unfold kq;rw [kF e1,if_pos e2])
 ·have e2:(zI (kg t l).1 tol).2=0:=Decidable.not_not.1 e2;have e:kq l t tol=(qS (zI (kg t l).1 tol).1,0):=by unfold kq;rw [kF e1,kF e2]
  rw [e];exact zS .refl (zu e2)
theorem ztZ(l:List Sg)(t:AF)(tol:Int)(ht:t.le 100000):zd Tryz.prog 14 [.sl sgE l,.agg (afE t),i64 tol] [] (rgE (kq l t tol)) []:=by
 refine zc tok mix Tryz.func14 rfl rfl rfl ?_;refine zb.t (zsz l t ht) ?_;have fs:=v8 (kg t l).1 tol;refine Br.mk (fun e1=>?_) (fun e1=>?_)
 ·have e1:¬(kg t l).2=0:=e1;exact qT (by unfold kq;rw [if_pos e1])
 have e1:(kg t l).2=0:=Decidable.not_not.1 e1;refine zb.t (zvA (kg t l).1 tol) ?_;refine Br.mk (fun e2=>?_) (fun e2=>?_)
 ·have e2:¬(zI (kg t l).1 tol).2=0:=e2;exact qT (by unfold kq;rw [kF e1,if_pos e2])
 have e2:(zI (kg t l).1 tol).2=0:=Decidable.not_not.1 e2;refine zb.t (zrR (zI (kg t l).1 tol).1 fs.1 fs.2) ?_;have e:kq l t tol=(qS (zI (kg t l).1 tol).1,0):=by unfold kq;rw [kF e1,kF e2]
 rw [e];exact .refl
theorem zhp{f:Pt->Pt->Pt}(hf:∀p q,zo p->zo q->zo (f p q)):∀(q:List Pt) (z:Pt),zo z->(∀r∈q,zo r)->zo (q.foldl f z)
 | [],_,hz,_=>hz
 | a::r,z,hz,h=>zhp hf r (f z a) (hf z a hz (h a (.head _))) fun b hb=>h b (.tail _ hb)
theorem zsC(l:List Sg):zo (zbo l)/\zo (zbp l):=by
 have zk:zo zp:=dC
 have hd:∀q:List Pt,(∀r∈q,zo r)->zo (q.headD zp):=fun q h=>by
  cases q with
  | nil=>exact zk
  | cons a r=>exact h a (.head _)
 by_cases v:qK l
 ·unfold zbo zbp;rw [if_pos v,if_pos v];have ha:∀r∈zY l,zo r:=fun p hp=>zah v p hp
  exact ⟨zhp (fun p q hp hq=>by unfold zo mnP at*;dsimp only;omega) _ _ (hd _ ha) ha,zhp (fun p q hp hq=>by unfold zo mxP at*;dsimp only;omega) _ _ (hd _ ha) ha⟩
 ·unfold zbo zbp;rw [if_neg v,if_neg v];exact ⟨zk,zk⟩
theorem zee{pen:Pen}(hk:k8 pen):0<=kJ pen/\kJ pen<=4194304:=by
 obtain ⟨hw,_,_,hm,_⟩:=hk;unfold zX at hw;have hp:=Int.mul_nonneg (show 0<=pen.w by omega) (show 0<=pen.m by omega);have hq:=Int.mul_le_mul (show pen.w<=16384 by omega) (show pen.m<=65536 by omega) oM dC;unfold kJ
 split <;> omega
def zkc(l:List Sg)(pen:Pen):Prop:=k8 pen/\zbR l
instance (l:List Sg) (pen:Pen):Decidable (zkc l pen):=inferInstanceAs (Decidable (_/\_))
def znm(l:List Sg)(pen:Pen):Pt:=if zkc l pen then ⟨(zbo l).x - kJ pen,(zbo l).y - kJ pen⟩ else zp
def znn(l:List Sg)(pen:Pen):Pt:=if zkc l pen then ⟨(zbp l).x+kJ pen,(zbp l).y+kJ pen⟩ else zp
def sbE(l:List Sg)(pen:Pen):SV:=.tup [.agg (ptE (znm l pen)),.agg (ptE (znn l pen)),pr (zkc l pen)]
theorem zoH{l:List Sg}{pen:Pen}(h:¬zkc l pen):LE (.tup [.agg [i64 0,i64 0],.agg [i64 0,i64 0],.val (.bool false)]) (sbE l pen):=by
 unfold sbE znm znn;rw [if_neg h,if_neg h];exact ue (.cons .refl (.cons .refl (.cons (ze h) .nil)))
theorem zno{l:List Sg}{pen:Pen}(h:zkc l pen):LE (.tup [.agg [i64 ((zbo l).x - kJ pen),i64 ((zbo l).y - kJ pen)],.agg [i64 ((zbp l).x+kJ pen),i64 ((zbp l).y+kJ pen)],.val (.bool true)]) (sbE l pen):=by
 unfold sbE znm znn;rw [if_pos h,if_pos h];exact ue (.cons .refl (.cons .refl (.cons (kC h) .nil)))
theorem zhq(pen:Pen):(jt ⟨[],false⟩ pen).2=if k8 pen then 0 else 13:=by
 have hl:qf ⟨[],false⟩=0:=zgX dC;unfold jt
 by_cases k:k8 pen
 ·rw [zV k,if_pos k,if_neg (show ¬¬∀q∈(⟨[],false⟩:Pl).pts,zo q from fun h=>h fun q hq=>by cases hq),if_neg (show ¬4096 < (⟨[],false⟩:Pl).pts.length by decide),hl]
  split
  ·rfl
  ·rw [zmb (.inr dC)];rfl
 ·rw [if_pos k,if_neg k]
theorem zoI(pen:Pen):zd Tryz.prog 43 [.agg [.val (.slice none 0 0),.val (.bool false)],.agg (yi pen)] [] (zm9 (jt ⟨[],false⟩ pen)) []:=
 (zsv ⟨[],false⟩ pen (Nat.zero_le _)).args (.cons (jJ (.cons ku (.cons (ze (show ¬(false=true) by decide)) .nil))) (.cons .refl .nil))
theorem zeM(l:List Sg)(pen:Pen):zd Tryz.prog 29 [.sl sgE l,.agg (yi pen)] [] (sbE l pen) []:=by
 refine zc tok mix Tryz.func29 rfl rfl rfl ?_;have de:=zhq pen;refine zb.t (zoI pen) ?_;refine Br.mk (fun e=>?_) (fun e=>?_)
 ·have e:¬(jt ⟨[],false⟩ pen).2=0:=e;exact zoH fun h=>e (by rw [de,if_pos h.1])
 have e:(jt ⟨[],false⟩ pen).2=0:=Decidable.not_not.1 e
 have hk:k8 pen:=by
  refine Decidable.not_not.1 fun k=>?_
  rw [de,if_neg k] at e;exact absurd e dC
 refine zb.t (zqZ l) ?_;refine Br.mk (fun s=>?_) (fun s=>?_)
 ·have s:¬zbR l:=s;exact zoH fun h=>s h.2
 have s:zbR l:=Decidable.not_not.1 s;have mr:=zee hk;obtain ⟨lk,hk2⟩:=zsC l;unfold zo at lk hk2;refine zb.t (zsw pen hk) ?_;refine Dr.d ?_;(iterate 4 refine Ar.o ?_);refine Ob.mk (by kernel_rfl) ?_;exact zno ⟨hk,s⟩
theorem zp6(l:List Sg)(pen:Pen)(hl:l.length<=300):zd Tryz.prog 30 [.sl sgE l,.agg (yi pen)] [] (sbE l pen) []:=by
 refine zc tok mix Tryz.func30 rfl rfl rfl ?_;refine zb.t (zcp l hl) ?_;refine Br.mk (fun s=>?_) (fun s=>?_)
 ·have s:¬zbR l:=s;exact zoH fun h=>s h.2
 have s:zbR l:=Decidable.not_not.1 s;refine zb.t (zta pen) ?_;refine Br.mk (fun k=>?_) (fun k=>?_)
 ·have k:¬k8 pen:=k;exact zoH fun h=>k h.1
 have hk:k8 pen:=Decidable.not_not.1 k;have mr:=zee hk;obtain ⟨lk,hk2⟩:=zsC l;unfold zo at lk hk2;obtain ⟨hw,_,_,hm,_⟩:=id hk;unfold zX at hw;have hp:=Int.mul_nonneg (show 0<=pen.w by omega) (show 0<=pen.m by omega);have hq:=Int.mul_le_mul (show pen.w<=16384 by omega) (show pen.m<=65536 by omega) oM dC;refine Ar.o ?_;refine Br.mk (fun j=>?_) (fun j=>?_)
 ·have j:pen.j=1:=j;have em:zcU (pen.w+2) [pen.w*pen.m / 512+2]=kJ pen:=by unfold kJ;rw [if_pos j];rfl
  refine Ar.o ?_;refine Dv.pos ⟨oM,dC,(show pen.w*pen.m<=9223372036854775807 by omega)⟩ ?_;refine Ar.o ?_;refine Dr.d ?_;(iterate 4 refine Ar.o ?_);refine Ob.mk (by kernel_rfl) ?_;have:=zno (l:=l) (pen:=pen) ⟨hk,s⟩;rw [← em] at this;exact this
 ·have j:¬pen.j=1:=j;have em:pen.w+2=kJ pen:=by unfold kJ;rw [if_neg j]
  refine Dr.d ?_;(iterate 4 refine Ar.o ?_);refine Ob.mk (by kernel_rfl) ?_;have:=zno (l:=l) (pen:=pen) ⟨hk,s⟩;rw [← em] at this;exact this
def uT(rs:List (List Pt)):List Pl:=rs.map fun r=>⟨r,true⟩
def yR(rs:List (List Pt)):List (List Pt):=rs.flatMap fun r=>kT (kj r)
def zaj(n:Int):Pen:=⟨2*n,3,3,256,[],0⟩
def zkd(rs:List (List Pt))(n:Int):List (List Pt)×Int:=
 if ¬qg rs then ([],12) else if n < 1∨8192 < n then ([],2)
 else if (ko (uT rs) (zaj n)).2≠0 then ([],(ko (uT rs) (zaj n)).2)
 else if 4096 < kN (yR rs++(ko (uT rs) (zaj n)).1) then ([],5) else (yR rs++(ko (uT rs) (zaj n)).1,0)
theorem znp{l:List (List Pt)}{i:Nat}{x:List Pt}(h:l[i]? =some x):yR (l.take (i+1))=yR (l.take i)++kT (kj x):=by
 unfold yR;rw [List.take_add_one,h,List.flatMap_append];simp
theorem zeN:∀l:List (List Pt),(yR l).length<=l.length
 | []=>Nat.le_refl 0
 | r::s=>by
  have ih:=zeN s;have h:=y7 (kj r);have e:yR (r::s)=kT (kj r)++yR s:=rfl;rw [e,List.length_append,List.length_cons];omega
theorem ziZ:∀l:List (List Pt),kN (yR l)<=kN l
 | []=>Nat.le_refl 0
 | r::s=>by
  have ih:=ziZ s;have h:=vh (r:=r) (Nat.le_refl r.length);have e:yR (r::s)=kT (kj r)++yR s:=rfl;rw [e,zj6,vL]
  have:kN (kT (kj r))<=(kj r).length:=by
   unfold kT
   split
   ·exact Nat.zero_le _
   ·rw [vL];exact Nat.le_refl _
  omega
theorem uK:∀{l:List (List Pt)} {r:List Pt},r∈l->r.length<=kN l
 | x::s,r,h=>by
  rw [vL]
  cases h with
  | head=>omega
  | tail _ h=>have:=uK h;omega
theorem zke{rs:List (List Pt)}{i:Nat}{x:List Pt}(h:rs[i]? =some x):(uT rs)[i]? =some ⟨x,true⟩:=by
 unfold uT;rw [List.getElem?_map,h];rfl
def zxl(n:Int):List SV:=[i64 (2*n),i64 3,i64 3,i64 256,.val (.slice none 0 0),i64 0]
theorem zt0(n:Int):LE (.agg (zxl n)) (.agg (yi (zaj n))):=jJ (.cons .refl (.cons .refl (.cons .refl (.cons .refl (.cons ku (.cons .refl .nil))))))
theorem zp7(r:List Pt)(n:Int)(h:r.length<=4096):zd Tryz.prog 66 [.agg [.sl ptE r,.val (.bool true)],.agg (zxl n)] [] (rgE (kA ⟨r,true⟩ (zaj n))) []:=
 (zhh ⟨r,true⟩ (zaj n) h).args (.cons (jJ (.cons .refl (.cons (kC rfl) .nil))) (.cons (zt0 n) .nil))
theorem zw5(r:List Pt)(n:Int)(h:r.length<=4096):zd Tryz.prog 69 [.agg [.sl ptE r,.val (.bool true)],.agg (zxl n)] [] (rgE (kA ⟨r,true⟩ (zaj n))) []:=
 (zwk ⟨r,true⟩ (zaj n) h).args (.cons (jJ (.cons .refl (.cons (kC rfl) .nil))) (.cons (zt0 n) .nil))
theorem zxC(rs:List (List Pt))(n:Int)(hl:rs.length<=4096)(hs:∀r∈rs,(r.length:Int)<=9223372036854771711):zd Tryz.prog 33 [.sl zw rs,i64 n] [] (rgE (zkd rs n)) []:=by
 refine zc tok mix Tryz.func33 rfl rfl rfl ?_;refine zb.t (zgF rs hs) ?_;refine Br.mk (fun k=>?_) (fun k=>?_)
 ·have k:¬qg rs:=k;exact qT (by unfold zkd;rw [if_pos k])
 have k:qg rs:=Decidable.not_not.1 k;have hn0:n < 1∨8192 < n->zkd rs n=([],2):=fun h=>by unfold zkd;rw [zV k,if_pos h]
 refine Br.mk (fun n1=>qT (hn0 (.inl (show n < 1 from n1)))) (fun n1=>?_);have n1:¬n < 1:=n1;refine Br.mk (fun n2=>qT (hn0 (.inr (show 8192 < n from n2)))) (fun n2=>?_);have n2:¬8192 < n:=n2
 have es:zkd rs n=if (ko (uT rs) (zaj n)).2≠0 then ([],(ko (uT rs) (zaj n)).2)
   else if 4096 < kN (yR rs++(ko (uT rs) (zaj n)).1) then ([],5) else (yR rs++(ko (uT rs) (zaj n)).1,0):=by
  unfold zkd;rw [zV k,if_neg (show ¬(n < 1∨8192 < n) by omega)]
 have hc:kN rs<=4096:=by have:=k.1;omega
 have hr:∀r∈rs,r.length<=4096:=fun r h=>by have:=uK h;omega
 intro hl1;refine ⟨Nat,fun i=>⟨[(0,.sl zw rs),(1,i64 n),(6,.own 0),(24,.sl zw rs),(25,i64 (rs.length:Int)),(26,i64 (i:Int))],[(0,.arr 76 zw 1 (yR (rs.take i)))],1,67,0⟩,fun i=>i<=rs.length,fun i=>rs.length - i,0,?_,?_,?_⟩
 ·exact Nat.zero_le _
 ·exact zh [(0,none)]
 rintro i hi
 have fl:=zeN (rs.take i);rw [List.length_take] at fl;refine Br.mk (fun g=>?_) (fun g=>?_)
 ·have g:(i:Int) < rs.length:=g;refine Ob.o ?_;intro x hx;have hx:rs[i]? =some x:=hx;have ft:=znp hx;refine zb.t (uD x (hs x (List.mem_of_getElem? hx))) ?_;intro hl2;refine Br.mk (fun o=>?_) (fun o=>?_)
  ·have o:(0:Int) < (kj x).length:=o;refine ⟨List Pt,zw,[kj x],rfl,Ob.o0 ?_⟩;refine ⟨[kj x],rfl,Ob.o9 ?_⟩;refine Ar.o ?_;exact ⟨i+1,oM,zM [(0,some 2)] ⟨congrArg (fun q=>some (Mem.arr 76 zw 1 q)) (by rw [ft];unfold kT;rw [if_neg (fun h=>by rw [h] at o;exact absurd o dC)]),trivial⟩,by dsimp only;omega⟩
  ·have o:¬(0:Int) < (kj x).length:=o;refine Ar.o ?_;exact ⟨i+1,oM,zM [(0,some 0)] ⟨congrArg (fun q=>some (Mem.arr 76 zw 1 q)) (by rw [ft];unfold kT;rw [if_pos (List.eq_nil_of_length_eq_zero oM),List.append_nil]),trivial⟩,by dsimp only;omega⟩
 have g:¬(i:Int) < rs.length:=g;have et:rs.take i=rs:=List.take_of_length_le oM;refine Ar.o ?_;intro hl3;refine ⟨Nat,fun i=>⟨[(6,.own 1),(10,.loc 0 0),(43,.sl zw rs),(44,i64 (rs.length:Int)),(45,i64 (i:Int))],[(0,.box 42 (zxl n)),(1,.arr 76 zw 1 (yR rs++vM ((uT rs).take i) (zaj n)))],2,67,0⟩,fun i=>i<=rs.length/\∀q∈(uT rs).take i,(kA q (zaj n)).2=0,fun i=>rs.length - i,0,?_,?_,?_⟩
 ·exact ⟨Nat.zero_le _,fun q hq=>by cases hq⟩
 ·exact zM [(0,some 1),(1,some 0)] ⟨rfl,congrArg (fun q=>some (Mem.arr 76 zw 1 q)) (by rw [et];exact (List.append_nil _).symm),trivial⟩
 rintro j ⟨h1,h2⟩
 have hlp:∀q∈(uT rs).take j,q.pts.length<=4096:=fun q hq=>by
  have hq:=List.mem_of_mem_take hq;unfold uT at hq;obtain ⟨r,hr1,rfl⟩:=List.mem_map.1 hq;exact hr r hr1
 obtain ⟨f1,f2,f3⟩:=zdk h2 hlp;have tl:((uT rs).take j).length<=rs.length:=by rw [List.length_take];unfold uT;rw [List.length_map];omega
 have fl2:=zeN rs;refine Br.mk (fun g2=>?_) (fun g2=>?_)
 ·have g2:(j:Int) < rs.length:=g2;refine Ob.o ?_;intro x hx;have hx:rs[j]? =some x:=hx;have hxl:=hr x (List.mem_of_getElem? hx);refine zb.t (zp7 x n hxl) ?_;refine Br.mk (fun z=>?_) (fun z=>?_)
  ·have z:¬(kA ⟨x,true⟩ (zaj n)).2=0:=z;refine qT ?_;rw [es,zba (zke hx) h2 z];exact if_pos z
  have z:(kA ⟨x,true⟩ (zaj n)).2=0:=Decidable.not_not.1 z;obtain ⟨s1,s2,s3⟩:=zbb z hxl;refine ⟨(kA ⟨x,true⟩ (zaj n)).1,rfl,Ob.o27 ?_⟩;refine Ar.o ?_;exact ⟨j+1,⟨oM,zhi (zke hx) h2 z⟩,zM [(0,some 0),(1,some 2)] ⟨rfl,congrArg (fun q=>some (Mem.arr 76 zw 1 q)) (by rw [ziP (zke hx)];exact List.append_assoc ..),trivial⟩,by dsimp only;omega⟩
 have g2:¬(j:Int) < rs.length:=g2;have ol:(uT rs).length=rs.length:=by unfold uT;rw [List.length_map]
 have et2:(uT rs).take j=uT rs:=List.take_of_length_le oM;have ec:kN (yR rs++vM ((uT rs).take j) (zaj n))=kN (yR rs)+kN (vM ((uT rs).take j) (zaj n)):=zj6 _ _;have fc:=ziZ rs;rw [et2] at h2;rw [zb5 h2,kF rfl] at es;refine zb.t (ztX (yR rs++vM ((uT rs).take j) (zaj n)) oM) ?_;refine Br.mk (fun o=>?_) (fun o=>?_)
 ·have o:(4096:Int) < kN (yR rs++vM ((uT rs).take j) (zaj n)):=o;rw [et2] at o;exact qT (by rw [es,if_pos (by dsimp only;omega)])
 ·have o:¬(4096:Int) < kN (yR rs++vM ((uT rs).take j) (zaj n)):=o;rw [et2] at o;rw [es,if_neg (by dsimp only;omega)];exact zS (qb (by rw [et2])) .refl
theorem r_ofs(rs:List (List Pt))(n:Int)(hl:rs.length<=4096):zd Tryz.prog 34 [.sl zw rs,i64 n] [] (rgE (zkd rs n)) []:=by
 refine zc tok mix Tryz.func34 rfl rfl rfl ?_;refine zb.t (zle rs) ?_;refine Br.mk (fun k=>?_) (fun k=>?_)
 ·have k:¬qg rs:=k;exact qT (by unfold zkd;rw [if_pos k])
 have k:qg rs:=Decidable.not_not.1 k;have hn0:n < 1∨8192 < n->zkd rs n=([],2):=fun h=>by unfold zkd;rw [zV k,if_pos h]
 refine Br.mk (fun n1=>qT (hn0 (.inl (show n < 1 from n1)))) (fun n1=>?_);have n1:¬n < 1:=n1;refine Br.mk (fun n2=>qT (hn0 (.inr (show 8192 < n from n2)))) (fun n2=>?_);have n2:¬8192 < n:=n2
 have es:zkd rs n=if (ko (uT rs) (zaj n)).2≠0 then ([],(ko (uT rs) (zaj n)).2)
   else if 4096 < kN (yR rs++(ko (uT rs) (zaj n)).1) then ([],5) else (yR rs++(ko (uT rs) (zaj n)).1,0):=by
  unfold zkd;rw [zV k,if_neg (show ¬(n < 1∨8192 < n) by omega)]
 have hc:kN rs<=4096:=by have:=k.1;omega
 have hr:∀r∈rs,r.length<=4096:=fun r h=>by have:=uK h;omega
 refine ⟨Nat,fun i=>⟨[(0,.sl zw rs),(1,i64 n),(6,.own 0),(7,i64 (i:Int))],[(0,.arr 76 zw 1 (yR (rs.take i)))],1,69,0⟩,fun i=>i<=rs.length,fun i=>rs.length - i,0,?_,?_,?_⟩
 ·exact Nat.zero_le _
 ·exact zh [(0,none)]
 rintro i hi
 have fl:=zeN (rs.take i);rw [List.length_take] at fl;intro hl1;refine Br.mk (fun g=>?_) (fun g=>?_)
 ·have g:(i:Int) < rs.length:=g;refine Ob.o ?_;intro x hx;have hx:rs[i]? =some x:=hx;have ft:=znp hx;refine zb.t (zvZ x) ?_;intro hl2;refine Br.mk (fun o=>?_) (fun o=>?_)
  ·have o:(0:Int) < (kj x).length:=o;refine ⟨List Pt,zw,[kj x],rfl,Ob.o0 ?_⟩;refine ⟨[kj x],rfl,Ob.o9 ?_⟩;refine Ar.o ?_;exact ⟨i+1,oM,zM [(0,some 2)] ⟨congrArg (fun q=>some (Mem.arr 76 zw 1 q)) (by rw [ft];unfold kT;rw [if_neg (fun h=>by rw [h] at o;exact absurd o dC)]),trivial⟩,by dsimp only;omega⟩
  ·have o:¬(0:Int) < (kj x).length:=o;refine Ar.o ?_;exact ⟨i+1,oM,zM [(0,some 0)] ⟨congrArg (fun q=>some (Mem.arr 76 zw 1 q)) (by rw [ft];unfold kT;rw [if_pos (List.eq_nil_of_length_eq_zero oM),List.append_nil]),trivial⟩,by dsimp only;omega⟩
 have g:¬(i:Int) < rs.length:=g;have et:rs.take i=rs:=List.take_of_length_le oM;refine Ar.o ?_;refine ⟨Nat,fun i=>⟨[(0,.sl zw rs),(6,.own 1),(9,.loc 0 0),(10,i64 (i:Int))],[(0,.box 42 (zxl n)),(1,.arr 76 zw 1 (yR rs++vM ((uT rs).take i) (zaj n)))],2,69,0⟩,fun i=>i<=rs.length/\∀q∈(uT rs).take i,(kA q (zaj n)).2=0,fun i=>rs.length - i,0,?_,?_,?_⟩
 ·exact ⟨Nat.zero_le _,fun q hq=>by cases hq⟩
 ·exact zM [(0,some 1),(1,some 0)] ⟨rfl,congrArg (fun q=>some (Mem.arr 76 zw 1 q)) (by rw [et];exact (List.append_nil _).symm),trivial⟩
 rintro j ⟨h1,h2⟩
 have hlp:∀q∈(uT rs).take j,q.pts.length<=4096:=fun q hq=>by
  have hq:=List.mem_of_mem_take hq;unfold uT at hq;obtain ⟨r,hr1,rfl⟩:=List.mem_map.1 hq;exact hr r hr1
 obtain ⟨f1,f2,f3⟩:=zdk h2 hlp;have tl:((uT rs).take j).length<=rs.length:=by rw [List.length_take];unfold uT;rw [List.length_map];omega
 have fl2:=zeN rs;intro hl3;refine Br.mk (fun g2=>?_) (fun g2=>?_)
 ·have g2:(j:Int) < rs.length:=g2;refine Dr.d ?_;refine Ob.o ?_;intro x hx;have hx:rs[j]? =some x:=hx;have hxl:=hr x (List.mem_of_getElem? hx);refine zb.t (zw5 x n hxl) ?_;refine Ob.mk (by kernel_rfl) ?_;refine Br.mk (fun z=>?_) (fun z=>?_)
  ·have z:¬(kA ⟨x,true⟩ (zaj n)).2=0:=z;refine qT ?_;rw [es,zba (zke hx) h2 z];exact if_pos z
  have z:(kA ⟨x,true⟩ (zaj n)).2=0:=Decidable.not_not.1 z;obtain ⟨s1,s2,s3⟩:=zbb z hxl;refine ⟨(kA ⟨x,true⟩ (zaj n)).1,rfl,Ob.o27 ?_⟩;refine Ar.o ?_;exact ⟨j+1,⟨oM,zhi (zke hx) h2 z⟩,zM [(0,some 0),(1,some 2)] ⟨rfl,congrArg (fun q=>some (Mem.arr 76 zw 1 q)) (by rw [ziP (zke hx)];exact List.append_assoc ..),trivial⟩,by dsimp only;omega⟩
 have g2:¬(j:Int) < rs.length:=g2;have ol:(uT rs).length=rs.length:=by unfold uT;rw [List.length_map]
 have et2:(uT rs).take j=uT rs:=List.take_of_length_le oM;have ec:kN (yR rs++vM ((uT rs).take j) (zaj n))=kN (yR rs)+kN (vM ((uT rs).take j) (zaj n)):=zj6 _ _;have fc:=ziZ rs;rw [et2] at h2;rw [zb5 h2,kF rfl] at es;refine zb.t (zws (yR rs++vM ((uT rs).take j) (zaj n)) oM) ?_;refine Br.mk (fun o=>?_) (fun o=>?_)
 ·have o:(4096:Int) < kN (yR rs++vM ((uT rs).take j) (zaj n)):=o;rw [et2] at o;exact qT (by rw [es,if_pos (by dsimp only;omega)])
 ·have o:¬(4096:Int) < kN (yR rs++vM ((uT rs).take j) (zaj n)):=o;rw [et2] at o;rw [es,if_neg (by dsimp only;omega)];exact zS (qb (by rw [et2])) .refl
def zw6(rs:List (List Pt))(n:Nat):Prop:=rs.length<=n/\kN rs<=n
instance (rs:List (List Pt)) (n:Nat):Decidable (zw6 rs n):=inferInstanceAs (Decidable (_/\_))
def u7(n:Nat)(l:List (List Pt)):Nat:=(l.map fun r=>min r.length (n+1)).sum
theorem zp8{n:Nat}{l:List (List Pt)}{i:Nat}{x:List Pt}(h:l[i]? =some x):u7 n (l.take (i+1))=u7 n (l.take i)+min x.length (n+1):=by
 unfold u7;rw [List.take_add_one,h,List.map_append,List.sum_append];simp
theorem zt1(n:Nat)(l:List (List Pt)):u7 n l<=(n+1)*l.length:=by
 induction l with
 | nil=>exact Nat.le_refl 0
 | cons r s ih=>
  have e:u7 n (r::s)=min r.length (n+1)+u7 n s:=by unfold u7;simp
  rw [e,List.length_cons,Nat.mul_succ];omega
theorem zsD(n:Nat)(l:List (List Pt)):u7 n l<=n↔kN l<=n:=by
 have key:∀l:List (List Pt),u7 n l<=kN l/\(u7 n l<=n->u7 n l=kN l):=fun l=>by
  induction l with
  | nil=>exact ⟨Nat.le_refl 0,fun _=>rfl⟩
  | cons r s ih=>
   have e:u7 n (r::s)=min r.length (n+1)+u7 n s:=by unfold u7;simp
   rw [e,vL];refine ⟨oM,fun h=>?_⟩;have:=ih.2 oM;omega
 obtain ⟨h1,h2⟩:=key l;constructor
 ·intro h;have:=h2 h;omega
 ·intro h;omega
theorem zxm(rs:List (List Pt))(n:Nat)(hn:n<=1000):zd Tryz.prog 19 [.sl zw rs,i64 (n:Int)] [] (pr (zw6 rs n)) []:=by
 refine zc tok mix Tryz.func19 rfl rfl rfl ?_;refine ⟨Nat,fun i=>⟨[(0,.sl zw rs),(1,i64 (n:Int)),(5,i64 (u7 n (rs.take i):Int)),(6,i64 (i:Int))],[],0,37,0⟩,fun i=>i<=rs.length/\i<=n+1,fun i=>rs.length - i,0,?_,?_,?_⟩
 ·exact ⟨Nat.zero_le _,Nat.zero_le _⟩
 ·exact zh []
 rintro i ⟨h1,h2⟩
 have ml:=zt1 n (rs.take i);rw [List.length_take,Nat.min_eq_left h1] at ml;have ml2:(n+1)*i<=1001*1001:=Nat.mul_le_mul oM oM;intro hl1
 -- at the loop's end
 have fin:(rs.length<=i∨n < i)->∀Q:Prop,((rs.length<=n->u7 n (rs.take i)<=n∨¬u7 n (rs.take i)<=n)->Q)->Q:=fun _ Q h=>h fun _=>Decidable.em _
 have same:rs.length<=n->(rs.length<=i∨n < i)->u7 n (rs.take i)=u7 n rs:=fun h k=>by rw [List.take_of_length_le oM]
 have mi:=zsD n rs;refine Br.mk (fun g=>Br.mk (fun g2=>?_) (fun g2=>?_)) (fun g=>?_)
 ·have g:(i:Int) < rs.length:=g;have g2:(i:Int)<=n:=g2;refine Ob.o ?_;intro x hx;have hx:rs[i]? =some x:=hx;intro hl2;refine Ar.o ?_;have em:zac (x.length:Int) [(n:Int)+1]=((min x.length (n+1):Nat):Int):=show min (x.length:Int) ((n:Int)+1)=_ by omega
  refine Ar.fit (show -9223372036854775808<=(u7 n (rs.take i):Int)+zac (x.length:Int) [(n:Int)+1]/\(u7 n (rs.take i):Int)+zac (x.length:Int) [(n:Int)+1]<=9223372036854775807 by rw [em];omega) ?_;refine Ar.o ?_;exact ⟨i+1,⟨oM,oM⟩,z0 [] ⟨rfl,rfl,congrArg (fun q=>some (i64 q)) (show (u7 n (rs.take i):Int)+zac (x.length:Int) [(n:Int)+1]=((u7 n (rs.take (i+1)):Nat):Int) by rw [em,zp8 hx];omega),rfl,trivial⟩ trivial,by dsimp only;omega⟩
 all_goals
  have ge:rs.length<=i∨n < i:=by
   first
   | exact .inr (by have g2:¬(i:Int)<=n:=g2;omega)
   | exact .inl (by have g:¬(i:Int) < rs.length:=g;omega)
  intro hl3;refine Br.mk (fun o=>?_) (fun o=>?_)
  ·have o:(rs.length:Int)<=n:=o;have es:=same oM ge;refine kZ ?_;show ((u7 n (rs.take i):Nat):Int)<=(n:Int)↔_;rw [es];constructor
   ·intro h;exact ⟨oM,mi.1 oM⟩
   ·intro h;have:=mi.2 h.2;omega
  ·have o:¬(rs.length:Int)<=n:=o;exact ze fun h=>o (by have:=h.1;omega)
end Go.Gs
