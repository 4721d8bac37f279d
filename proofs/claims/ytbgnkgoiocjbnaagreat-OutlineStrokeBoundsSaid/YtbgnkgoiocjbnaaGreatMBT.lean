/- Dashes in the second text: lines, lengths, parts. -/
import Derived.Test.YtbgnkgoiocjbnaaGreatMA
import Derived.Test.YtbgnkgoiocjbnaaGreatMBS
set_option maxRecDepth 100000
set_option maxHeartbeats 8000000
set_option linter.all false
namespace Go.Gs
open Go.Proofs
theorem zwN(l:List Pt):zd Tryz.prog 92 [.sl ptE l] [] (pr (∀p∈l,zo p)) []:=by
 refine zc tok mix Tryz.func92 rfl rfl rfl ?_;refine ⟨Nat,fun i=>⟨[(0,.sl ptE l),(3,i64 (i:Int))],[],0,16,0⟩,fun i=>i<=l.length/\∀p∈l.take i,zo p,fun i=>l.length - i,0,?_,?_,?_⟩
 ·exact ⟨Nat.zero_le _,fun p hp=>by cases hp⟩
 ·exact zh []
 rintro i ⟨h1,h2⟩
 intro hl1;refine Br.mk (fun g=>?_) (fun g=>?_)
 ·have g:(i:Int) < l.length:=g;refine Ob.o ?_;intro x hx;have hx:l[i]? =some x:=hx;refine zb.t (yG x) ?_;refine Br.mk (fun b=>ze fun k=>b (k x (List.mem_of_getElem? hx))) (fun b=>?_);have b:=Decidable.not_not.1 b;refine Ar.o ?_;refine ⟨i+1,⟨oM,fun p hp=>?_⟩,zh [],by dsimp only;omega⟩;rw [List.take_add_one,hx] at hp
  rcases List.mem_append.1 hp with hp | hp
  ·exact h2 p hp
  ·simp at hp;rw [hp];exact b
 ·have g:¬(i:Int) < l.length:=g;rw [List.take_of_length_le oM] at h2;exact kC h2
theorem zwO(a b:Pt):zd Tryz.prog 145 [.agg (ptE a),.agg (ptE b)] [] (i64 (zjN a b)) []:=by
 refine zc tok mix Tryz.func145 rfl rfl rfl ?_;refine zb.t (zwI b a) ?_;refine zb.t (zxa (zv1 b a)) ?_;exact .refl
theorem zxg(p:Pl)(hp:p.pts.length<=4096):zd Tryz.prog 144 [.agg (plE p)] [] (.sl ptE (qE p)) []:=by
 refine zc tok mix Tryz.func144 rfl rfl rfl ?_;have dl:=yM p;refine zb.t (zwi p hp) ?_;refine ⟨Pt,ptE,[],rfl,Ob.o2 ?_⟩;refine ⟨Nat,fun i=>⟨[(3,.loc 0 0),(4,.own 1),(5,i64 (i:Int))],[(0,.box 85 (plE (zE p))),(1,.arr 52 ptE 2 ((zE p).pts.take i))],2,40,0⟩,fun i=>i<=(zE p).pts.length,fun i=>(zE p).pts.length - i,0,?_,?_,?_⟩
 ·exact Nat.zero_le _
 ·exact zh [(0,some 1),(1,some 2)]
 rintro i hi
 intro hl1;refine Br.mk (fun g=>?_) (fun g=>?_)
 ·have g:(i:Int) < (zE p).pts.length:=g;refine Ob.o ?_;intro x hx;have hx:(zE p).pts[i]? =some x:=hx;refine ⟨Pt,ptE,[x],rfl,Ob.o0 ?_⟩;refine ⟨[x],rfl,Ob.o16 ?_⟩;refine Ar.o ?_;exact ⟨i+1,oM,zM [(0,some 0),(1,some 3)] ⟨rfl,congrArg (fun q=>some (Mem.arr 52 ptE 2 q)) (by rw [List.take_add_one,hx];rfl),trivial⟩,by dsimp only;omega⟩
 have g:¬(i:Int) < (zE p).pts.length:=g;have et:(zE p).pts.take i=(zE p).pts:=List.take_of_length_le oM;have no:¬((zE p).cl=true/\2<=(zE p).pts.length)->LE (.sl ptE ((zE p).pts.take i)) (.sl ptE (qE p)):=fun h=>qb (by rw [et,zaE,ztJ h])
 refine Br.mk (fun c=>?_) (fun c=>no fun h=>c h.1);have c:(zE p).cl=true:=c;intro hl2;refine Br.mk (fun n2=>?_) (fun n2=>no fun h=>n2 (show (2:Int)<=(zE p).pts.length by have:=h.2;omega));have n2:(2:Int)<=(zE p).pts.length:=n2;refine Ob.o ?_;intro x hx;have hx:=yL (show (zE p).pts[0]? =some x from hx);refine ⟨Pt,ptE,[x],rfl,Ob.o0 ?_⟩;refine ⟨[x],rfl,Ob.o16 ?_⟩;exact qb (by rw [et,zaE,zl9 c oM,hx])
theorem zww(p:Pl)(hp:p.pts.length<=4096)(ok:∀q∈p.pts,zo q):zd Tryz.prog 93 [.agg (plE p)] [] (i64 (qf p)) []:=by
 refine zc tok mix Tryz.func93 rfl rfl rfl ?_;have dl:=yM p;have ll:=yd (zE p);rw [← zaE] at ll;refine zb.t (zxg p hp) ?_;refine ⟨Nat,fun i=>⟨[(1,.loc 0 0),(3,i64 (atS (qE p) i)),(4,.sl ptE (qE p)),(5,i64 ((i:Int)+1))],[(0,.box 85 [.sl ptE p.pts,pr (p.cl=true)])],1,32,0⟩,fun i=>i<=(qE p).length - 1,fun i=>(qE p).length - i,0,?_,?_,?_⟩
 ·exact Nat.zero_le _
 ·exact zh [(0,some 0)]
 rintro i hi
 have ar:=zaF (qE p) i;intro hl1;refine Br.mk (fun g=>?_) (fun g=>?_);rotate_left
 ·have g:¬(i:Int)+1 < (qE p).length:=g;exact zu (by unfold qf;rw [show i=(qE p).length - 1 by omega])
 have g:(i:Int)+1 < (qE p).length:=g;refine zb.t (zwN p.pts) ?_;refine Br.mk (fun _=>?_) (fun h=>absurd ok h);refine Dr.k ?_;refine Ar.o ?_;refine Ob.o ?_;intro x hx
 have hx:=yL (show (qE p)[i]? =some x by
  have hx:(qE p)[((i:Int)+1 - 1).toNat]? =some x:=hx
  rwa [show ((i:Int)+1 - 1).toNat=i by omega] at hx)
 refine Ob.o ?_;intro y hy;have hy:=yL (show (qE p)[i+1]? =some y from hy);refine zb.t (zwO x y) ?_;have pc:=zfc x y;(iterate 2 refine Ar.o ?_);exact ⟨i+1,oM,z0 [(0,some 0)] ⟨rfl,congrArg (fun q=>some (i64 q)) (by rw [hx,hy];rfl),rfl,congrArg (fun q=>some (i64 q)) oM,trivial⟩ ⟨rfl,trivial⟩,by dsimp only;omega⟩
theorem zxB(d:List Int)(hd:uQ d):zd Tryz.prog 146 [.sl zdT d] [] (.tup [i64 (yJ d),i64 (drawn d)]) []:=by
 refine zc tok mix Tryz.func146 rfl rfl rfl ?_;obtain ⟨d1,d2,d3,d4⟩:=zbe hd;refine ⟨Nat,fun i=>⟨[(0,.sl zdT d),(4,i64 (qz d i)),(5,i64 (256*yV 0 d i)),(6,i64 (i:Int))],[],0,32,0⟩,fun i=>i<=d.length,fun i=>d.length - i,0,?_,?_,?_⟩
 ·exact Nat.zero_le _
 ·exact zh []
 rintro i hi
 have hpi:=zeI d1 hi;have hps:=zec d i hi;have q0:=zbd (r:=0) d1 i hi;have q1:=zbd (r:=1) d1 i hi;intro hl1;refine Br.mk (fun g=>?_) (fun g=>?_)
 ·have g:(i:Int) < d.length:=g;refine Ob.o ?_;intro x hx;have hx:d[i]? =some x:=hx;have hx1:=d1 x (List.mem_of_getElem? hx);have hx2:=d2 x (List.mem_of_getElem? hx);(iterate 2 refine Ar.o ?_);refine Dv.pos ⟨oM,dC⟩ ?_;refine Br.mk (fun ev=>?_) (fun ev=>?_)
  ·have ev:(i:Int) % 2=0:=ev;refine Ob.o ?_;intro x' hx';have ex:x'=x:=Option.some.inj ((show d[i]? =some x' from hx').symm.trans hx);rw [ex];(iterate 3 refine Ar.o ?_);exact ⟨i+1,oM,z0 [] ⟨rfl,congrArg (fun q=>some (i64 q)) (um hx).symm,congrArg (fun q=>some (i64 q)) (by rw [zeb hx oM];omega),rfl,trivial⟩ trivial,by dsimp only;omega⟩
  ·have ev:¬(i:Int) % 2=0:=ev;refine Ar.o ?_;exact ⟨i+1,oM,z0 [] ⟨rfl,congrArg (fun q=>some (i64 q)) (um hx).symm,congrArg (fun q=>some (i64 q)) (by rw [zhk oM]),rfl,trivial⟩ trivial,by dsimp only;omega⟩
 ·have g:¬(i:Int) < d.length:=g;have ei:i=d.length:=oM;exact zS (zu (by rw [ei,uG])) (zu (by rw [ei];rfl))
theorem zxQ(pen:Pen)(t:Nat)(hk:k8 pen)(hper:0 < yJ pen.d)(ht:(t:Int)<=70368744177664):zd Tryz.prog 147 [.agg (yi pen),i64 (t:Int)] [] (.tup [i64 ((ze6 pen.d (phD pen t) 0).1:Int),i64 (ze6 pen.d (phD pen t) 0).2]) []:=by
 refine zc tok mix Tryz.func147 rfl rfl rfl ?_;obtain ⟨d1,d2,d3,d4⟩:=zbe hk.2.2.2.2.1;have hph:=hk.2.2.2.2.2;refine zb.t (zxB pen.d hk.2.2.2.2.1) ?_;have m1:=Int.emod_nonneg (256*pen.ph) (show yJ pen.d≠0 by omega);have m2:=Int.emod_lt_of_pos (256*pen.ph) hper;have m3:=Int.emod_nonneg (t:Int) (show yJ pen.d≠0 by omega);have m6:=Int.emod_lt_of_pos (t:Int) hper;have m4:=Int.emod_nonneg ((t:Int) % yJ pen.d+256*pen.ph % yJ pen.d) (show yJ pen.d≠0 by omega);have m5:=Int.emod_lt_of_pos ((t:Int) % yJ pen.d+256*pen.ph % yJ pen.d) hper;refine Dr.k ?_
 refine Dv.pos ⟨oM,oM⟩ ?_;refine Ar.o ?_;refine Dv.pos ⟨oM,oM⟩ ?_;refine Ar.o ?_;refine Dv.pos ⟨oM,oM⟩ ?_;have ek:phD pen t=((t:Int) % yJ pen.d+256*pen.ph % yJ pen.d) % yJ pen.d:=rfl;rw [← ek] at m4 m5;refine ⟨Nat,fun i=>⟨[(2,.loc 0 0),(8,i64 (phD pen t - qz pen.d i)),(9,i64 (i:Int))],[(0,.box 42 (yi pen))],1,59,0⟩,fun i=>i<=pen.d.length/\qz pen.d i<=phD pen t,fun i=>pen.d.length - i,0,?_,?_,?_⟩
 ·exact ⟨Nat.zero_le _,by rw [un];exact m4⟩
 ·exact z0 [(0,some 0)] ⟨rfl,congrArg (fun q=>some (i64 q)) (by rw [un,Int.sub_zero];exact ek.symm),rfl,trivial⟩ ⟨rfl,trivial⟩
 rintro i ⟨hi,hle⟩
 have hpi:=zeI d1 hi;intro hl1;refine Br.mk (fun g=>?_) (fun g=>?_)
 ·have g:(i:Int) < pen.d.length:=g;refine Ob.o ?_;intro x hx;have hx:pen.d[i]? =some x:=hx;have same:∀y,pen.d[(i:Int).toNat]? =some y->y=x:=fun y h=>Option.some.inj ((show pen.d[i]? =some y from h).symm.trans hx)
  have hx1:=d1 x (List.mem_of_getElem? hx);have hx2:=d2 x (List.mem_of_getElem? hx);have hs:=um hx;refine Ar.o ?_;refine Br.mk (fun c=>?_) (fun c=>?_)
  ·have c:phD pen t - qz pen.d i < 256*x:=c;have hp:=zfz (i0:=0) d1 hx hle oM;refine Dr.k ?_;refine Ob.o ?_;intro x' hx';rw [same x' hx'];(iterate 2 refine Ar.o ?_);refine zS (zu ?_) (zu ?_)
   ·rw [hp];show (i:Int)=((0+i:Nat):Int);omega
   ·rw [hp];dsimp only;omega
  ·have c:¬phD pen t - qz pen.d i < 256*x:=c;refine Ob.o ?_;intro x' hx';rw [same x' hx'];(iterate 3 refine Ar.o ?_);exact ⟨i+1,⟨oM,oM⟩,z0 [(0,some 0)] ⟨rfl,congrArg (fun q=>some (i64 q)) (by rw [hs];omega),rfl,trivial⟩ ⟨rfl,trivial⟩,by dsimp only;omega⟩
 ·have g:¬(i:Int) < pen.d.length:=g;have:qz pen.d i=yJ pen.d:=by rw [show i=pen.d.length by omega,uG]
  omega
def zv4(pen:Pen)(a:Nat):Int:=(ze6 pen.d (phD pen a) 0).2
def zv0(pen:Pen)(long:Nat):Nat->Nat->Nat
 | 0,a=>a
 | k+1,a=>if a < long/\(zd1 (onD pen) a).length<=4096 then zv0 pen long k (a+(min (zv4 pen a) ((long:Int) - a)).toNat) else a
def zvW(pen:Pen)(long:Int):List (Nat×Nat):=
 if ¬k8 pen∨long < 1∨(0 < yJ pen.d/\drawn pen.d=0) then []
 else if yJ pen.d=drawn pen.d then [(0,long.toNat)] else zd1 (onD pen) (zv0 pen long.toNat long.toNat 0)
theorem zwX{pen:Pen}{long k a:Nat}(h:¬(a < long/\(zd1 (onD pen) a).length<=4096)):zv0 pen long k a=a:=by
 cases k with
 | zero=>rfl
 | succ k=>unfold zv0;rw [if_neg h]
theorem zwl{pen:Pen}{a:Nat}(hd:uQ pen.d)(hper:0 < yJ pen.d):∃e,pen.d[(ze6 pen.d (phD pen a) 0).1]? =some e/\1<=zv4 pen a/\zv4 pen a<=256*e/\
  yJ pen.d ∣ qz pen.d ((ze6 pen.d (phD pen a) 0).1+1) - zv4 pen a - ((a:Int)+256*pen.ph):=by
 obtain ⟨d1,d2,d3,d4⟩:=zbe hd;have k0:=Int.emod_nonneg ((a:Int)+256*pen.ph) (show yJ pen.d≠0 by omega);have k1:=Int.emod_lt_of_pos ((a:Int)+256*pen.ph) hper;rw [← zsq pen a] at k0 k1;obtain ⟨i,e,g1,g2,g3⟩:=zoj d1 k0 k1;have gp:=zfz (i0:=0) d1 g1 g2 g3;have gs:=um g1;unfold zv4;rw [gp,Nat.zero_add];refine ⟨e,g1,by dsimp only;omega,by dsimp only;omega,?_⟩;dsimp only;rw [show qz pen.d (i+1) - (qz pen.d i+256*e - phD pen a) - ((a:Int)+256*pen.ph)=phD pen a - ((a:Int)+256*pen.ph) by omega,zsq]
 have:=Int.emod_add_mul_ediv ((a:Int)+256*pen.ph) (yJ pen.d);exact ⟨-(((a:Int)+256*pen.ph) / yJ pen.d),by rw [Int.mul_neg];omega⟩
theorem zwY{pen:Pen}{a b:Nat}(hd:uQ pen.d)(hper:0 < yJ pen.d)(hab:a < b)(hb:(b:Int)<=a+zv4 pen a):
  ((ze6 pen.d (phD pen a) 0).1 % 2=0->qp (onD pen) b=((qp (onD pen) a).1,some ((qp (onD pen) a).2.getD a)))/\(¬(ze6 pen.d (phD pen a) 0).1 % 2=0->qp (onD pen) b=(zd1 (onD pen) a,none)):=by
 obtain ⟨d1,d2,d3,d4⟩:=zbe hd;obtain ⟨e,h1,h2,h3,h4⟩:=zwl (a:=a) hd hper;have on:∀t,a<=t->t < b->(onD pen t↔(ze6 pen.d (phD pen a) 0).1 % 2=0):=fun t ht ht2=>zxA d1 h1 h3 h4 ht oM
 exact ⟨fun k=>zvl hab fun t a b=>(on t a b).2 k,fun k=>ztm hab fun t a b c=>k ((on t a b).1 c)⟩
theorem zwn{on:Nat->Prop}[DecidablePred on]{a b:Nat}(h:a<=b):(zd1 on a).length<=(zd1 on b).length:=by
 obtain ⟨k,rfl⟩:∃k,b=a+k:=⟨b - a,oM⟩;clear h
 induction k with
 | zero=>exact Nat.le_refl _
 | succ k ih=>
  refine Nat.le_trans ih ?_;show (zd1 on (a+k)).length<=(zd1 on (a+k+1)).length;unfold zd1;rw [vf]
  split
  ·cases (qp on (a+k)).2 <;> simp
  ·cases (qp on (a+k)).2 <;> simp
theorem zwP{pen:Pen}{long:Nat}:∀(k a:Nat),a<=long->zv0 pen long k a<=long
 | 0,a,h=>h
 | k+1,a,h=>by
  unfold zv0
  split
  ·exact zwP k _ oM
  ·exact h
theorem zwx{pen:Pen}{long:Nat}(hd:uQ pen.d)(hper:0 < yJ pen.d):∀(k a:Nat),a<=long->long - a<=k->zv0 pen long k a=long∨4096 < (zd1 (onD pen) (zv0 pen long k a)).length
 | 0,a,h,hk=>.inl (by show a=long;omega)
 | k+1,a,h,hk=>by
  obtain ⟨e,h1,h2,h3,h4⟩:=zwl (a:=a) hd hper;unfold zv0
  split
  ·rename_i c;exact zwx hd hper k _ oM oM
  ·rename_i c
   by_cases c2:a < long
   ·exact .inr (by have:¬(zd1 (onD pen) a).length<=4096:=fun k=>c ⟨c2,k⟩;omega)
   ·exact .inl oM
theorem zwy(pen:Pen)(long:Int):(zvW pen long=qh pen long∨(4096 < (zvW pen long).length/\4096 < (qh pen long).length))/\∀q∈zvW pen long,q.1 < q.2/\(q.2:Int)<=long/\1<=long:=by
 unfold zvW qh
 split
 ·exact ⟨.inl rfl,fun q hq=>by cases hq⟩
 ·rename_i h;have hk:k8 pen:=Decidable.not_not.1 fun k=>h (.inl k)
  have hl:¬long < 1:=fun k=>h (.inr (.inl k))
  split
  ·refine ⟨.inl rfl,fun q hq=>?_⟩;have:=List.mem_singleton.1 hq;subst this;dsimp only;omega
  ·rename_i hne;have hd:=hk.2.2.2.2.1;obtain ⟨d1,d2,d3,d4⟩:=zbe hd;have hps:=zec pen.d pen.d.length (Nat.le_refl _);rw [uG] at hps;have q0:=zbd (r:=0) d1 pen.d.length (Nat.le_refl _);have q1:=zbd (r:=1) d1 pen.d.length (Nat.le_refl _);have hdr:=zhl pen.d;have hper:0 < yJ pen.d:=oM;have hs:=zwP (pen:=pen) (long:=long.toNat) long.toNat 0 (Nat.zero_le _);refine ⟨?_,fun q hq=>?_⟩
   ·rcases zwx (long:=long.toNat) hd hper long.toNat 0 (Nat.zero_le _) oM with h | h
    ·rw [h];exact .inl rfl
    ·exact .inr ⟨h,Nat.lt_of_lt_of_le h (zwn hs)⟩
   ·have:=zmZ q hq;omega
theorem zwq{on:Nat->Prop}[DecidablePred on]{a:Nat}{z:Nat×Nat}(h:(zd1 on a)[(zd1 on a).length - 1]? =some z):(z.2=a↔∃f,(qp on a).2=some f)/\∀f,(qp on a).2=some f->z=(f,a):=by
 unfold zd1 at h
 cases ho:(qp on a).2 with
 | some f=>
  rw [ho] at h;have h:((qp on a).1++[(f,a)])[((qp on a).1++[(f,a)]).length - 1]? =some z:=h;rw [List.length_append,show (qp on a).1.length+[(f,a)].length - 1=(qp on a).1.length from rfl,List.getElem?_concat_length] at h
  cases h
  exact ⟨⟨fun _=>⟨f,rfl⟩,fun _=>rfl⟩,fun g hg=>by cases hg;rfl⟩
 | none=>
  rw [ho] at h;have h:((qp on a).1++[])[((qp on a).1++[]).length - 1]? =some z:=h;rw [List.append_nil] at h;have:=((zin (on:=on) a).1 z (List.mem_of_getElem? h)).2;exact ⟨⟨fun k=>by omega,fun ⟨f,k⟩=>by cases k⟩,fun f k=>by cases k⟩
def zv2(q:Int×Int):List SV:=[i64 q.1,i64 q.2]
def rI(l:List (Nat×Nat)):List (Int×Int):=l.map fun q=>((q.1:Int),(q.2:Int))
theorem zwg(l:List (Nat×Nat))(q:Nat×Nat):rI (l++[q])=rI l++[((q.1:Int),(q.2:Int))]:=by unfold rI;rw [List.map_append];rfl
theorem zv7(l:List (Nat×Nat)):(rI l).length=l.length:=by unfold rI;simp
theorem zwQ{l:List (Nat×Nat)}{i:Nat}{z:Int×Int}(h:(rI l)[i]? =some z):∃q,l[i]? =some q/\z=((q.1:Int),(q.2:Int)):=by
 unfold rI at h;rw [List.getElem?_map] at h
 cases hq:l[i]? with
 | none=>rw [hq] at h;cases h
 | some q=>rw [hq] at h;exact ⟨q,rfl,(Option.some.inj h).symm⟩
theorem zwz{on:Nat->Prop}[DecidablePred on]{a b:Nat}(h:qp on b=(zd1 on a,none)):zd1 on b=zd1 on a:=by
 show (qp on b).1++((qp on b).2.map fun f=>(f,b)).toList=_;rw [h];exact List.append_nil _
theorem zwa{on:Nat->Prop}[DecidablePred on]{a b f:Nat}(h:qp on b=((qp on a).1,some ((qp on a).2.getD a)))(hf:(qp on a).2=some f):
  zd1 on a=(qp on a).1++[(f,a)]/\zd1 on b=(qp on a).1++[(f,b)]:=by
 constructor
 ·unfold zd1;rw [hf];rfl
 ·show (qp on b).1++((qp on b).2.map fun f=>(f,b)).toList=_;rw [h,hf];rfl
theorem zwA{on:Nat->Prop}[DecidablePred on]{a b:Nat}(h:qp on b=((qp on a).1,some ((qp on a).2.getD a)))(hf:(qp on a).2=none):
  zd1 on b=zd1 on a++[(a,b)]:=by
 show (qp on b).1++((qp on b).2.map fun f=>(f,b)).toList=((qp on a).1++((qp on a).2.map fun f=>(f,a)).toList)++[(a,b)];rw [h,hf];simp
theorem zxR(pen:Pen)(long:Int)(hk:k8 pen)(hlong:long<=70368744177664):zd Tryz.prog 94 [.agg (yi pen),i64 long,i64 4096] [] (.sl zv2 (rI (zvW pen long))) []:=by
 refine zc tok mix Tryz.func94 rfl rfl rfl ?_;refine ⟨Int×Int,zv2,[],rfl,Ob.o2 ?_⟩;have bad:(¬k8 pen∨long < 1∨(0 < yJ pen.d/\drawn pen.d=0))->([]:List (Int×Int))=rI (zvW pen long):=fun h=>by unfold zvW;rw [if_pos h];rfl
 have hd:=hk.2.2.2.2.1;obtain ⟨d1,d2,d3,d4⟩:=zbe hd;have hps:=zec pen.d pen.d.length (Nat.le_refl _);rw [uG] at hps;have q0:=zbd (r:=0) d1 pen.d.length (Nat.le_refl _);have q1:=zbd (r:=1) d1 pen.d.length (Nat.le_refl _);have hdr:=zhl pen.d;refine zb.t (zxB pen.d hd) ?_;refine Br.mk (fun l1=>?_) (fun l1=>?_)
 ·have l1:long < 1:=l1;exact qb (bad (.inr (.inl l1)))
 have l1:¬long < 1:=l1;refine zb.t (zta pen) ?_;refine Br.mk (fun h=>absurd hk h) (fun _=>?_)
 have good:(yJ pen.d=drawn pen.d->rI (zvW pen long)=[((0:Int),long)])/\(¬yJ pen.d=drawn pen.d->¬(0 < yJ pen.d/\drawn pen.d=0)->zvW pen long=zd1 (onD pen) (zv0 pen long.toNat long.toNat 0)):=by
  refine ⟨fun h=>?_,fun h h0=>?_⟩
  ·unfold zvW;rw [if_neg (fun k=>by rcases k with k | k | k;exact k hk;exact l1 k;omega),if_pos h];show [(((0:Nat):Int),((long.toNat:Nat):Int))]=_;rw [show ((long.toNat:Nat):Int)=long by omega];rfl
  ·unfold zvW;rw [if_neg (fun k=>by rcases k with k | k | k;exact k hk;exact l1 k;exact h0 k),if_neg h]
 refine Br.mk (fun pp=>Br.mk (fun dz=>?_) (fun dz=>?_)) (fun pp=>?_)
 ·have pp:0 < yJ pen.d:=pp;have dz:drawn pen.d=0:=dz;exact qb (bad (.inr (.inr ⟨pp,dz⟩)))
 all_goals
  have npd:¬(0 < yJ pen.d/\drawn pen.d=0):=by
   first
   | exact fun h=>dz h.2
   | exact fun h=>pp h.1
  clear pp;refine Br.mk (fun e=>?_) (fun e=>?_)
  ·have e:yJ pen.d=drawn pen.d:=e;refine ⟨Int×Int,zv2,[((0:Int),long)],rfl,Ob.o0 ?_⟩;refine ⟨[((0:Int),long)],rfl,Ob.o3 ?_⟩;exact qb (good.1 e).symm
  have e:¬yJ pen.d=drawn pen.d:=e;have hR:=good.2 e npd;have hper:0 < yJ pen.d:=oM
  refine ⟨Nat×Nat,fun s=>⟨[(1,i64 long),(2,i64 4096),(3,.loc 0 0),(7,.own 1),(10,i64 (s.2:Int))],[(0,.box 42 (yi pen)),(1,.arr 134 zv2 2 (rI (zd1 (onD pen) s.2)))],2,107,0⟩,
   fun s=>s.2<=long.toNat/\long.toNat - s.2<=s.1/\zv0 pen long.toNat s.1 s.2=zv0 pen long.toNat long.toNat 0,fun s=>s.1,(long.toNat,0),?_,?_,?_⟩
  ·exact ⟨Nat.zero_le _,Nat.le_refl _,rfl⟩
  ·exact zh [(0,some 0),(1,some 1)]
  rintro ⟨k,a⟩ ⟨h1,h2,h3⟩
  dsimp only at h1 h2 h3;have len:=zv7 (zd1 (onD pen) a);have over:¬(a < long.toNat/\(zd1 (onD pen) a).length<=4096)->LE (.sl zv2 (rI (zd1 (onD pen) a))) (.sl zv2 (rI (zvW pen long))):=fun h=>qb (by rw [hR,← h3,zwX h])
  refine Br.mk (fun g=>?_) (fun g=>over fun h=>g (show (a:Int) < long by omega));have g:(a:Int) < long:=g;intro hl1;refine Br.mk (fun g2=>?_) (fun g2=>over fun h=>g2 (show ((rI (zd1 (onD pen) a)).length:Int)<=4096 by omega));have g2:((rI (zd1 (onD pen) a)).length:Int)<=4096:=g2;obtain ⟨x,p1,p2,p3,p4⟩:=zwl (a:=a) hd hper;have ax:=d2 x (List.mem_of_getElem? p1);refine zb.t (zxQ pen a hk hper oM) ?_;refine Ar.o ?_;obtain ⟨b,hb⟩:∃b,b=a+(min (zv4 pen a) ((long.toNat:Int) - a)).toNat:=⟨_,rfl⟩
  obtain ⟨rOn,rOff⟩:=zwY (b:=b) hd hper (show a < b by omega) oM;have hk1:k=(k - 1)+1:=oM;have hb1:b<=long.toNat:=oM;have hb2:long.toNat - b<=k - 1:=oM
  have hb3:zv0 pen long.toNat (k - 1) b=zv0 pen long.toNat long.toNat 0:=by
   rw [← h3]
   conv=>rhs;rw [hk1]
   show _=if a < long.toNat/\(zd1 (onD pen) a).length<=4096 then zv0 pen long.toNat (k - 1) (a+(min (zv4 pen a) ((long.toNat:Int) - a)).toNat) else a
   rw [if_pos ⟨oM,oM⟩,← hb]
  have p5:(ze6 pen.d (phD pen a) 0).2=zv4 pen a:=rfl;refine Br.mk (fun c=>Ar.fit oM ?_) (fun c=>?_)
  ·have hT:((a:Int)+(ze6 pen.d (phD pen a) 0).2)=(b:Int):=by have c:zv4 pen a < long - a:=c;omega
   intro hl2;refine Dv.pos ⟨oM,dC⟩ ?_;refine Br.mk (fun ev=>?_) (fun ev=>?_)
   ·have ev:(ze6 pen.d (phD pen a) 0).1 % 2=0:=by have ev:((ze6 pen.d (phD pen a) 0).1:Int) % 2=0:=ev;omega
    have rOn:=rOn ev;have new:(qp (onD pen) a).2=none->rI (zd1 (onD pen) a)++[((a:Int),((a:Int)+(ze6 pen.d (phD pen a) 0).2))]=rI (zd1 (onD pen) b):=fun h=>by rw [zwA rOn h,zwg,hT]
    refine Br.mk (fun n0=>?_) (fun n0=>?_)
    ·have n0:(0:Int) < ((rI (zd1 (onD pen) a)).length:Int):=n0;refine Ar.o ?_;refine Ob.o ?_;refine Ob.o ?_;intro z hz;obtain ⟨q,hq,hzq⟩:=zwQ (show (rI (zd1 (onD pen) a))[(((rI (zd1 (onD pen) a)).length:Int) - 1).toNat]? =some z from hz);rw [show (((rI (zd1 (onD pen) a)).length:Int) - 1).toNat=(zd1 (onD pen) a).length - 1 by omega] at hq;obtain ⟨w1,w2⟩:=zwq hq;refine Br.mk (fun m=>?_) (fun m=>?_)
     ·have m:z.2=(a:Int):=m;obtain ⟨f,hf⟩:=w1.1 (by rw [hzq] at m;dsimp only at m;omega);obtain ⟨e1,e2⟩:=zwa rOn hf;have hz1:z.1=(f:Int):=by rw [hzq,w2 f hf]
      have ll:((((rI (zd1 (onD pen) a)).length:Int) - 1).toNat)=(rI (qp (onD pen) a).1).length:=by
       have:(zd1 (onD pen) a).length=(qp (onD pen) a).1.length+1:=by rw [e1,List.length_append];rfl
       rw [zv7] at len ⊢;rw [zv7];omega
      refine Ar.o ?_;refine Ob.o ?_;refine Ob.o ?_;intro z' hz';have hzz:z'=z:=Option.some.inj (hz'.symm.trans hz);refine ⟨(z'.1,((a:Int)+(ze6 pen.d (phD pen a) 0).2)),rfl,?_⟩
      have eq:(rI (zd1 (onD pen) a)).set (((rI (zd1 (onD pen) a)).length:Int) - 1).toNat (z'.1,((a:Int)+(ze6 pen.d (phD pen a) 0).2))=rI (zd1 (onD pen) b):=by
       rw [ll,e1,e2,zwg,zwg,zjX rfl,hzz,hz1,hT]
      exact ⟨(k - 1,b),⟨hb1,hb2,hb3⟩,z0 [(0,some 0),(1,some 1)] ⟨rfl,rfl,rfl,rfl,congrArg (fun q=>some (i64 q)) hT,trivial⟩ ⟨rfl,congrArg (fun q=>some (Mem.arr 134 zv2 2 q)) eq,trivial⟩,by dsimp only;omega⟩
     ·have m:¬z.2=(a:Int):=m
      have hn:(qp (onD pen) a).2=none:=by
       cases ho:(qp (onD pen) a).2 with
       | none=>rfl
       | some f=>exact absurd (by rw [hzq];dsimp only;rw [w1.2 ⟨f,ho⟩]) m
      refine Dv.pos ⟨oM,dC⟩ ?_;refine Br.mk (fun _=>?_) (fun h=>absurd (show ((ze6 pen.d (phD pen a) 0).1:Int) % 2=0 by omega) h);refine ⟨Int×Int,zv2,[((a:Int),((a:Int)+(ze6 pen.d (phD pen a) 0).2))],rfl,Ob.o0 ?_⟩;refine ⟨[((a:Int),((a:Int)+(ze6 pen.d (phD pen a) 0).2))],rfl,Ob.o3 ?_⟩;exact ⟨(k - 1,b),⟨hb1,hb2,hb3⟩,z0 [(0,some 0),(1,some 3)] ⟨rfl,rfl,rfl,rfl,congrArg (fun q=>some (i64 q)) hT,trivial⟩ ⟨rfl,congrArg (fun q=>some (Mem.arr 134 zv2 2 q)) (new hn),trivial⟩,by dsimp only;omega⟩
    ·have n0:¬(0:Int) < ((rI (zd1 (onD pen) a)).length:Int):=n0
     have hn:(qp (onD pen) a).2=none:=by
      cases ho:(qp (onD pen) a).2 with
      | none=>rfl
      | some f=>
       have:(zd1 (onD pen) a).length=(qp (onD pen) a).1.length+1:=by rw [(zwa rOn ho).1,List.length_append];rfl
       omega
     refine Dv.pos ⟨oM,dC⟩ ?_;refine Br.mk (fun _=>?_) (fun h=>absurd (show ((ze6 pen.d (phD pen a) 0).1:Int) % 2=0 by omega) h);refine ⟨Int×Int,zv2,[((a:Int),((a:Int)+(ze6 pen.d (phD pen a) 0).2))],rfl,Ob.o0 ?_⟩;refine ⟨[((a:Int),((a:Int)+(ze6 pen.d (phD pen a) 0).2))],rfl,Ob.o3 ?_⟩;exact ⟨(k - 1,b),⟨hb1,hb2,hb3⟩,z0 [(0,some 0),(1,some 3)] ⟨rfl,rfl,rfl,rfl,congrArg (fun q=>some (i64 q)) hT,trivial⟩ ⟨rfl,congrArg (fun q=>some (Mem.arr 134 zv2 2 q)) (new hn),trivial⟩,by dsimp only;omega⟩
   ·have ev:¬(ze6 pen.d (phD pen a) 0).1 % 2=0:=by have ev:¬((ze6 pen.d (phD pen a) 0).1:Int) % 2=0:=ev;omega
    refine Dv.pos ⟨oM,dC⟩ ?_;refine Br.mk (fun h=>absurd (show ((ze6 pen.d (phD pen a) 0).1:Int) % 2=0 from h) oM) (fun _=>?_);exact ⟨(k - 1,b),⟨hb1,hb2,hb3⟩,z0 [(0,some 0),(1,some 1)] ⟨rfl,rfl,rfl,rfl,congrArg (fun q=>some (i64 q)) hT,trivial⟩ ⟨rfl,congrArg (fun q=>some (Mem.arr 134 zv2 2 q)) (by rw [zwz (rOff ev)]),trivial⟩,by dsimp only;omega⟩
  ·have hT:long=(b:Int):=by have c:¬zv4 pen a < long - a:=c;omega
   intro hl2;refine Dv.pos ⟨oM,dC⟩ ?_;refine Br.mk (fun ev=>?_) (fun ev=>?_)
   ·have ev:(ze6 pen.d (phD pen a) 0).1 % 2=0:=by have ev:((ze6 pen.d (phD pen a) 0).1:Int) % 2=0:=ev;omega
    have rOn:=rOn ev;have new:(qp (onD pen) a).2=none->rI (zd1 (onD pen) a)++[((a:Int),long)]=rI (zd1 (onD pen) b):=fun h=>by rw [zwA rOn h,zwg,hT]
    refine Br.mk (fun n0=>?_) (fun n0=>?_)
    ·have n0:(0:Int) < ((rI (zd1 (onD pen) a)).length:Int):=n0;refine Ar.o ?_;refine Ob.o ?_;refine Ob.o ?_;intro z hz;obtain ⟨q,hq,hzq⟩:=zwQ (show (rI (zd1 (onD pen) a))[(((rI (zd1 (onD pen) a)).length:Int) - 1).toNat]? =some z from hz);rw [show (((rI (zd1 (onD pen) a)).length:Int) - 1).toNat=(zd1 (onD pen) a).length - 1 by omega] at hq;obtain ⟨w1,w2⟩:=zwq hq;refine Br.mk (fun m=>?_) (fun m=>?_)
     ·have m:z.2=(a:Int):=m;obtain ⟨f,hf⟩:=w1.1 (by rw [hzq] at m;dsimp only at m;omega);obtain ⟨e1,e2⟩:=zwa rOn hf;have hz1:z.1=(f:Int):=by rw [hzq,w2 f hf]
      have ll:((((rI (zd1 (onD pen) a)).length:Int) - 1).toNat)=(rI (qp (onD pen) a).1).length:=by
       have:(zd1 (onD pen) a).length=(qp (onD pen) a).1.length+1:=by rw [e1,List.length_append];rfl
       rw [zv7] at len ⊢;rw [zv7];omega
      refine Ar.o ?_;refine Ob.o ?_;refine Ob.o ?_;intro z' hz';have hzz:z'=z:=Option.some.inj (hz'.symm.trans hz);refine ⟨(z'.1,long),rfl,?_⟩
      have eq:(rI (zd1 (onD pen) a)).set (((rI (zd1 (onD pen) a)).length:Int) - 1).toNat (z'.1,long)=rI (zd1 (onD pen) b):=by
       rw [ll,e1,e2,zwg,zwg,zjX rfl,hzz,hz1,hT]
      exact ⟨(k - 1,b),⟨hb1,hb2,hb3⟩,z0 [(0,some 0),(1,some 1)] ⟨rfl,rfl,rfl,rfl,congrArg (fun q=>some (i64 q)) hT,trivial⟩ ⟨rfl,congrArg (fun q=>some (Mem.arr 134 zv2 2 q)) eq,trivial⟩,by dsimp only;omega⟩
     ·have m:¬z.2=(a:Int):=m
      have hn:(qp (onD pen) a).2=none:=by
       cases ho:(qp (onD pen) a).2 with
       | none=>rfl
       | some f=>exact absurd (by rw [hzq];dsimp only;rw [w1.2 ⟨f,ho⟩]) m
      refine Dv.pos ⟨oM,dC⟩ ?_;refine Br.mk (fun _=>?_) (fun h=>absurd (show ((ze6 pen.d (phD pen a) 0).1:Int) % 2=0 by omega) h);refine ⟨Int×Int,zv2,[((a:Int),long)],rfl,Ob.o0 ?_⟩;refine ⟨[((a:Int),long)],rfl,Ob.o3 ?_⟩;exact ⟨(k - 1,b),⟨hb1,hb2,hb3⟩,z0 [(0,some 0),(1,some 3)] ⟨rfl,rfl,rfl,rfl,congrArg (fun q=>some (i64 q)) hT,trivial⟩ ⟨rfl,congrArg (fun q=>some (Mem.arr 134 zv2 2 q)) (new hn),trivial⟩,by dsimp only;omega⟩
    ·have n0:¬(0:Int) < ((rI (zd1 (onD pen) a)).length:Int):=n0
     have hn:(qp (onD pen) a).2=none:=by
      cases ho:(qp (onD pen) a).2 with
      | none=>rfl
      | some f=>
       have:(zd1 (onD pen) a).length=(qp (onD pen) a).1.length+1:=by rw [(zwa rOn ho).1,List.length_append];rfl
       omega
     refine Dv.pos ⟨oM,dC⟩ ?_;refine Br.mk (fun _=>?_) (fun h=>absurd (show ((ze6 pen.d (phD pen a) 0).1:Int) % 2=0 by omega) h);refine ⟨Int×Int,zv2,[((a:Int),long)],rfl,Ob.o0 ?_⟩;refine ⟨[((a:Int),long)],rfl,Ob.o3 ?_⟩;exact ⟨(k - 1,b),⟨hb1,hb2,hb3⟩,z0 [(0,some 0),(1,some 3)] ⟨rfl,rfl,rfl,rfl,congrArg (fun q=>some (i64 q)) hT,trivial⟩ ⟨rfl,congrArg (fun q=>some (Mem.arr 134 zv2 2 q)) (new hn),trivial⟩,by dsimp only;omega⟩
   ·have ev:¬(ze6 pen.d (phD pen a) 0).1 % 2=0:=by have ev:¬((ze6 pen.d (phD pen a) 0).1:Int) % 2=0:=ev;omega
    refine Dv.pos ⟨oM,dC⟩ ?_;refine Br.mk (fun h=>absurd (show ((ze6 pen.d (phD pen a) 0).1:Int) % 2=0 from h) oM) (fun _=>?_);exact ⟨(k - 1,b),⟨hb1,hb2,hb3⟩,z0 [(0,some 0),(1,some 1)] ⟨rfl,rfl,rfl,rfl,congrArg (fun q=>some (i64 q)) hT,trivial⟩ ⟨rfl,congrArg (fun q=>some (Mem.arr 134 zv2 2 q)) (by rw [zwz (rOff ev)]),trivial⟩,by dsimp only;omega⟩
theorem zv8(q:List Pt)(x:Pt)(hq:q.length<=100000):zd Tryz.prog 148 [.sl ptE q,.agg (ptE x)] [] (.own 0) [(0,.arr 52 ptE 2 (jH q x))]:=by
 refine jD tok mix Tryz.func148 rfl rfl rfl ?_;refine ⟨Pt,ptE,[],rfl,Ob.o2 ?_⟩;refine ⟨Nat,fun i=>⟨[(0,.sl ptE q),(3,.loc 0 0),(5,.own 1),(6,i64 (i:Int))],[(0,.box 52 (ptE x)),(1,.arr 52 ptE 2 (q.take i))],2,40,0⟩,fun i=>i<=q.length,fun i=>q.length - i,0,?_,?_,?_⟩
 ·exact Nat.zero_le _
 ·exact zh [(0,some 0),(1,some 1)]
 rintro i hi
 intro hl1;refine Br.mk (fun g=>?_) (fun g=>?_)
 ·have g:(i:Int) < q.length:=g;refine Ob.o ?_;intro y hy;have hy:q[i]? =some y:=hy;refine ⟨Pt,ptE,[y],rfl,Ob.o0 ?_⟩;refine ⟨[y],rfl,Ob.o16 ?_⟩;refine Ar.o ?_;exact ⟨i+1,oM,zM [(0,some 0),(1,some 3)] ⟨rfl,congrArg (fun q=>some (Mem.arr 52 ptE 2 q)) (by rw [List.take_add_one,hy];rfl),trivial⟩,by dsimp only;omega⟩
 have g:¬(i:Int) < q.length:=g;have et:q.take i=q:=List.take_of_length_le oM;have tl:(q.take i).length<=100000:=by rw [et];exact hq
 intro hl2;refine Dr.d ?_;refine Br.mk (fun z=>?_) (fun z=>?_)
 ·have z:(q.length:Int)=0:=z;refine Ob.mk (by kernel_rfl) ?_;refine ⟨Pt,ptE,[x],rfl,Ob.o0 ?_⟩;refine ⟨[x],rfl,Ob.o3 ?_⟩;exact ⟨some 3,.own _ rfl,congrArg (fun q=>some (Mem.arr 52 ptE 2 q)) (by rw [et,zow oM]),fun _ _=>rfl⟩
 have z:¬(q.length:Int)=0:=z;refine Ar.o ?_;refine Ob.o ?_;intro y hy
 have hy:q[q.length - 1]? =some y:=by
  have hy:q[((q.length:Int) - 1).toNat]? =some y:=hy
  rwa [show ((q.length:Int) - 1).toNat=q.length - 1 by omega] at hy
 refine Ob.mk (by kernel_rfl) ?_;refine Br.mk (fun k=>?_) (fun k=>?_)
 ·have k:¬y=x:=fun h=>k (qx.2 h)
  refine ⟨Pt,ptE,[x],rfl,Ob.o0 ?_⟩;refine ⟨[x],rfl,Ob.o3 ?_⟩;exact ⟨some 3,.own _ rfl,congrArg (fun q=>some (Mem.arr 52 ptE 2 q)) (by rw [et,zjZ hy k]),fun _ _=>rfl⟩
 ·have k:y=x:=qx.1 (Decidable.not_not.1 k);exact ⟨some 1,.own _ rfl,congrArg (fun q=>some (Mem.arr 52 ptE 2 q)) (by rw [et,zm8 hy k]),fun _ _=>rfl⟩
theorem zwm{c:List Pt}{i j:Nat}(h:i<=j):atS c i<=atS c j:=by
 obtain ⟨k,rfl⟩:∃k,j=i+k:=⟨j - i,oM⟩;clear h
 induction k with
 | zero=>exact Int.le_refl _
 | succ k ih=>
  have:=zfc (nth c (i+k)) (nth c (i+k+1));show atS c i<=atS c (i+k)+zjN (nth c (i+k)) (nth c (i+k+1));omega
theorem zxh{c:List Pt}{x:Int}{i:Nat}(h1:¬x < atS c i)(h2:x < atS c (i+1)):∀m,i<=m->zd2 c x m=i
 | 0,h=>by
   have:i=0:=oM;subst this;rfl
 | m+1,h=>by
  by_cases e:i=m+1
  ·rw [e] at h1 ⊢;exact zss h1
  ·have:=zwm (c:=c) (show i+1<=m+1 by omega);rw [zvH oM];exact zxh h1 h2 m oM
theorem zwt{c:List Pt}{x:Int}{i:Nat}(h:i<=c.length - 2)(h1:¬x < atS c i)(h2:x < atS c (i+1)):zd3 c x=zeY (nth c i) (nth c (i+1)) (x - atS c i) (zjN (nth c i) (nth c (i+1))):=by
 unfold zd3;rw [zxh h1 h2 _ h];dsimp only;rw [show atS c (i+1) - atS c i=zjN (nth c i) (nth c (i+1)) by show atS c i+zjN (nth c i) (nth c (i+1)) - atS c i=_;omega]
theorem zwZ{a b:Pt}{d:Int}(hd:1<=d/\d<=1099511627776)(ha:zo a):zeY a b 0 d=a:=by
 unfold zeY;rw [if_neg oM,zcn ha.1,zcn ha.2,show qM 0 0 d=0 from (zgo oM).2 ⟨Int.le_refl 0,oM⟩,Int.zero_mul,Int.zero_mul]
 have e:zQ 0 d=0:=by
  have h1:=zrN (M:=0) (show 0 < d by omega) (Int.le_refl 0) oM;omega
 rw [e]
 cases a
 simp
theorem zwB{x d:Int}(hd:1<=d):zQ (d*x) d=x:=by
 obtain ⟨D,rfl⟩:∃D:Nat,d=D:=⟨d.toNat,oM⟩;have hD:0 < D:=oM
 have e:(2*((D:Int)*x).natAbs+(D:Int).natAbs) / (2*(D:Int).natAbs)=x.natAbs:=by
  rw [Int.natAbs_mul,Int.natAbs_natCast,show 2*(D*x.natAbs)+D=D+(2*D)*x.natAbs by rw [Nat.mul_assoc];omega,Nat.add_mul_div_left _ _ oM,Nat.div_eq_of_lt oM,Nat.zero_add]
 unfold zQ;rw [e]
 by_cases hx:x < 0
 ·have:=Int.mul_neg_of_pos_of_neg (show (0:Int) < D by omega) hx;rw [if_neg oM];omega
 ·have:=Int.mul_nonneg (show (0:Int)<=D by omega) (show 0<=x by omega);rw [if_pos oM];omega
theorem zw0{a b:Pt}{d:Int}(hd:1<=d/\d<=1099511627776)(ha:zo a)(hb:zo b):zeY a b d d=b:=by
 unfold zeY;rw [if_neg oM,zcn ha.1,zcn ha.2,zcn hb.1,zcn hb.2,show qM d 0 d=d from (zgo oM).2 ⟨oM,Int.le_refl d⟩,zwB hd.1,zwB hd.1]
 cases b
 simp;omega
theorem zw1{a b:Pt}(ha:zo a)(hb:zo b)(h:a≠b):1<=zjN a b:=by
 have hs:=zwj hb ha;have hr:=zfc a b;refine Int.not_lt.1 fun k=>?_
 unfold zjN zqX at k hr;have dr:=zh7 (uw (zv1 b a)) (uw (zv1 b a))
 have d0:1<=zpf (zv1 b a) (zv1 b a):=by
  unfold zpf dtp;have x0:=jm (jW (zv1 b a)).x;have y0:=jm (jW (zv1 b a)).y;refine Int.not_lt.1 fun k2=>h ?_
  have zx:(jW (zv1 b a)).x*(jW (zv1 b a)).x=0:=oM;have zy:(jW (zv1 b a)).y*(jW (zv1 b a)).y=0:=oM;have zx:=(Int.mul_eq_zero.1 zx).elim id id;have zy:=(Int.mul_eq_zero.1 zy).elim id id;rw [hs] at zx zy;have zx:hI (b.x - a.x)=0:=zx;have zy:hI (b.y - a.y)=0:=zy;have e:∀n,hI n=0->n=0:=fun n hn=>by unfold hI qM at hn;split at hn <;> (try split at hn) <;> omega
  have:=e _ zx;have:=e _ zy
  cases a;cases b
  simp only [Pt.mk.injEq];dsimp only at*;omega
 have:=zqW (n:=65536*zpf (zv1 b a) (zv1 b a)) (a:=256) oM (by unfold zpf at d0 ⊢;omega) oM;omega
end Go.Gs
