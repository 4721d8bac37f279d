/- Points without repetition, both texts. -/
import Derived.Test.YtbgnkgoiocjbnaaGreatMA
import Derived.Test.YtbgnkgoiocjbnaaGreatMBM
set_option maxRecDepth 100000
set_option maxHeartbeats 8000000
set_option linter.all false
namespace Go.Gs
open Go.Proofs
theorem zdj:∀(l A:List Pt) (p:Pt),z6 (A++[p]) l=A++qP (p::l)
 | [],A,p=>rfl
 | x::r,A,p=>by
  have e:z6 (A++[p]) (x::r)=z6 (jH (A++[p]) x) r:=rfl;rw [e];unfold jH;rw [List.getLast?_concat];have d:qP (p::x::r)=if p=x then qP (x::r) else p::qP (x::r):=rfl
  rw [d]
  by_cases c:p=x
  ·subst c;rw [if_pos rfl,if_pos rfl];exact zdj r A p
  ·rw [if_neg (fun k=>c (Option.some.inj k)),if_neg c,zdj r (A++[p]) x,List.append_assoc];rfl
theorem zl3(l:List Pt):z6 [] l=qP l:=by
 cases l with
 | nil=>rfl
 | cons p r=>exact zdj r [] p
def dd(xs:List Pt)(i:Nat):List Pt:=z6 [] (xs.take i)
theorem zfD{xs:List Pt}{i:Nat}{x:Pt}(h:xs[i]? =some x):dd xs (i+1)=jH (dd xs i) x:=by
 unfold dd;exact zeF h
theorem zxP(xs:List Pt)(i:Nat):(dd xs i).length<=i:=by
 unfold dd;have:=vJ (xs.take i) [];rw [List.length_take] at this;simp at this;omega
theorem zsb{xs:List Pt}{i:Nat}(h:xs.length<=i):dd xs i=qP xs:=by
 unfold dd;rw [List.take_of_length_le h,zl3]
theorem zox{xs:List Pt}{i:Nat}{z:Pt}(h:xs[i]? =some z):(dd xs (i+1)).getLast?=some z:=by
 rw [zfD h];exact zlx _ _
theorem zvB{xs:List Pt}{x:Pt}(h:xs[0]? =some x):dd xs 1=xs.take 1:=by
 rw [zfD h,List.take_add_one,h];rfl
theorem zoy{xs:List Pt}{i:Nat}{x z:Pt}(hz:xs[i]? =some z)(hx:xs[i+1]? =some x)(e:z=x):dd xs (i+2)=dd xs (i+1):=by
 rw [zfD hx];unfold jH;rw [zox hz,e,if_pos rfl]
theorem zl4{xs:List Pt}{i:Nat}{x z:Pt}(hz:xs[i]? =some z)(hx:xs[i+1]? =some x)(e:¬z=x):dd xs (i+2)=dd xs (i+1)++[x]:=by
 rw [zfD hx];unfold jH;rw [zox hz,if_neg (fun k=>e (Option.some.inj k))]
theorem ztF{xs:List Pt}{i:Nat}{x:Pt}(h:xs[i]? =some x):xs.take (i+1)=xs.take i++[x]:=by
 rw [List.take_add_one,h];rfl
theorem zpR(xs:List Pt)(hx:xs.length<=4096):zd Tryz.prog 138 [.own 0] [(0,.arr 52 ptE 2 xs)] (.sl ptE (qP xs)) []:=by
 refine ze9 1 tok mix Tryz.func138 rfl rfl rfl ?_;intro hl1;refine Br.mk (fun g=>?_) (fun g=>?_)
 ·have g:(xs.length:Int) < 2:=g;refine qb ?_
  match xs,g with
  | [],_=>rfl
  | [p],_=>rfl
  | _::_::_,g=>exact absurd g (by simp only [List.length_cons];omega)
 have g:¬(xs.length:Int) < 2:=g;refine ⟨Nat,fun i=>⟨[(0,.own 0),(3,i64 ((i:Int)+1))],[(0,.arr 52 ptE 2 xs)],1,61,1⟩,fun i=>i+1<=xs.length/\dd xs (i+1)=xs.take (i+1),fun i=>xs.length - i,0,?_,?_,?_⟩
 ·exact ⟨oM,zvB (List.getElem?_eq_getElem oM)⟩
 ·exact zh [(0,some 0)]
 rintro i ⟨h1,h2⟩
 intro hl3;refine Br.mk (fun g4=>?_) (fun g4=>?_);rotate_left
 ·have g4:¬(i:Int)+1 < xs.length:=g4;refine qb ?_;rw [← zsb (i:=i+1) oM,h2,List.take_of_length_le oM]
 have g4:(i:Int)+1 < xs.length:=g4;refine Dr.k ?_;refine Ob.mk ⟨oM,g4⟩ ?_;refine Ob.mk ⟨oM,g4⟩ ?_;intro x hx'
 have hx0:xs[i+1]? =some x:=by
  have h:xs[((i:Int)+1).toNat]? =some x:=hx'
  rwa [show ((i:Int)+1).toNat=i+1 by omega] at h
 refine Ar.o ?_;refine Ob.o4 ?_;refine Ob.o4 ?_;intro z hz'
 have hz0:xs[i]? =some z:=by
  have h:xs[((i:Int)+1 - 1).toNat]? =some z:=hz'
  rwa [show ((i:Int)+1 - 1).toNat=i by omega] at h
 refine Br.mk (fun k=>?_) (fun k=>?_);rotate_left
 ·have k:¬z=x:=fun h=>k (qx.2 h.symm)
  refine Ar.o ?_;refine ⟨i+1,⟨oM,?_⟩,z0 [(0,some 0)] ⟨rfl,congrArg (fun n=>some (i64 n)) oM,trivial⟩ ⟨rfl,trivial⟩,by dsimp only;omega⟩;rw [zl4 hz0 hx0 k,h2,ztF hx0]
 have k:z=x:=(qx.1 k).symm;refine Sl.win (Ob.mk ⟨oM,oM,oM,oM⟩ ?_)
 refine ⟨Nat×Nat×List Pt,fun s=>⟨[(0,.own 0),(3,i64 (s.2.1:Int)),(4,.win 0 2 ((i:Int)+1) ((xs.length:Int) - ((i:Int)+1))),(5,i64 ((s.1:Int)+1))],[(0,.arr 52 ptE 2 s.2.2)],1,61,1⟩,
  fun s=>i+1+s.1 < xs.length/\s.2.2.length=xs.length/\s.2.2.take s.2.1=dd xs (i+s.1+2)/\s.2.1=(dd xs (i+s.1+2)).length/\s.2.1<=i+1+s.1/\∀j,i+1+s.1<=j->s.2.2[j]? =xs[j]?,fun s=>xs.length - s.1,(0,i+1,xs),?_,?_,?_⟩
 ·have e:=zoy hz0 hx0 k;refine ⟨by dsimp only;omega,rfl,?_,?_,by dsimp only;omega,fun j _=>rfl⟩
  ·show xs.take (i+1)=dd xs (i+0+2);rw [show i+0+2=i+2 from rfl,e,h2]
  ·show i+1=(dd xs (i+0+2)).length;rw [show i+0+2=i+2 from rfl,e,h2,List.length_take];omega
 ·exact z0 [(0,some 0)] ⟨rfl,congrArg (fun n=>some (i64 n)) (show ((i+1:Nat):Int)=(i:Int)+1 by omega).symm,rfl,rfl,trivial⟩ ⟨rfl,trivial⟩
 rintro ⟨m,q,A⟩ ⟨k1,k2,k3,k4,k5,k6⟩
 dsimp only at k1 k2 k3 k4 k5 k6;refine Ob.o ?_;refine Br.mk (fun g7=>?_) (fun g7=>?_)
 ·have g7:(m:Int)+1 < (xs.length:Int) - ((i:Int)+1):=g7;refine Dr.k ?_;refine Ob.mk ⟨by ((try dsimp only);omega),by ((try dsimp only);omega),g7⟩ ?_;refine Ob.o10 ?_;intro y hy'
  have hy0:A[i+m+2]? =some y:=by
   have h:A[((i:Int)+1+((m:Int)+1)).toNat]? =some y:=hy'
   rwa [show ((i:Int)+1+((m:Int)+1)).toNat=i+m+2 by omega] at h
  have hy1:xs[i+m+2]? =some y:=by rw [← k6 _ oM];exact hy0
  refine Ar.o ?_;refine Ob.o22 ?_;refine Ob.o10 ?_;intro u hu'
  have hu0:A[i+m+1]? =some u:=by
   have h:A[((i:Int)+1+((m:Int)+1 - 1)).toNat]? =some u:=hu'
   rwa [show ((i:Int)+1+((m:Int)+1 - 1)).toNat=i+m+1 by omega] at h
  have hu1:xs[i+m+1]? =some u:=by rw [← k6 _ oM];exact hu0
  refine Br.mk (fun d=>?_) (fun d=>?_)
  ·have d:¬u=y:=fun h=>d (qx.2 h.symm)
   have e:=zl4 hu1 hy1 d;refine Ob.mk ⟨by ((try dsimp only);omega),by ((try dsimp only);omega),g7⟩ ?_;refine Ob.o10 ?_;intro y' hy''
   have ey:y'=y:=by
    have h:A[((i:Int)+1+((m:Int)+1)).toNat]? =some y':=hy'';rw [show ((i:Int)+1+((m:Int)+1)).toNat=i+m+2 by omega,hy0] at h;exact (Option.some.inj h).symm
   rw [ey];refine Ob.o10 ?_;refine Ob.o10 ?_;intro t _;refine ⟨y,rfl,?_⟩;refine Ar.fit (by (try dsimp only);omega) ?_;refine Ar.o ?_;have hq:((q:Int)).toNat=q:=Int.toNat_natCast q
   refine ⟨(m+1,q+1,A.set q y),⟨by dsimp only;omega,by rw [List.length_set];exact k2,?_,?_,by dsimp only;omega,fun j hj=>?_⟩,
    z0 [(0,some 0)] ⟨rfl,congrArg (fun n=>some (i64 n)) (by (try dsimp only);omega),rfl,congrArg (fun n=>some (i64 n)) (by (try dsimp only);omega),trivial⟩ ⟨congrArg (fun a=>some (Mem.arr 52 ptE 2 a)) (by rw [hq]),trivial⟩,by dsimp only;omega⟩
   ·show (A.set q y).take (q+1)=dd xs (i+m+1+2);rw [e,← k3];have hlt:q < (A.set q y).length:=by rw [List.length_set];omega
    rw [List.take_add_one,List.take_set_of_le (Nat.le_refl q),List.getElem?_set_self oM];rfl
   ·show q+1=(dd xs (i+m+1+2)).length;rw [e,List.length_append,← k4];rfl
   ·show (A.set q y)[j]? =xs[j]?;have hj:i+1+(m+1)<=j:=hj;rw [List.getElem?_set_ne oM];exact k6 j oM
  ·have d:u=y:=(qx.1 (Decidable.not_not.1 d)).symm;have e:=zoy hu1 hy1 d;refine Ar.o ?_
   refine ⟨(m+1,q,A),⟨by dsimp only;omega,k2,?_,?_,by dsimp only;omega,fun j hj=>k6 j (by dsimp only at hj;omega)⟩,
    z0 [(0,some 0)] ⟨rfl,rfl,rfl,congrArg (fun n=>some (i64 n)) oM,trivial⟩ ⟨rfl,trivial⟩,by dsimp only;omega⟩
   ·show A.take q=dd xs (i+m+1+2);rw [e];exact k3
   ·show q=(dd xs (i+m+1+2)).length;rw [e];exact k4
 ·have g7:¬(m:Int)+1 < (xs.length:Int) - ((i:Int)+1):=g7;refine Sl.win (Ob.mk ⟨by ((try dsimp only);omega),by ((try dsimp only);omega),by ((try dsimp only);omega),by ((try dsimp only);omega)⟩ ?_);refine ⟨zp,rfl,Ob.o22 ?_⟩;have hq:((q:Int)).toNat=q:=Int.toNat_natCast q
  have hl:(A.take (q:Int).toNat++(List.replicate ((A.length:Int) - (q:Int)).toNat zp++A.drop ((q:Int).toNat+((A.length:Int) - (q:Int)).toNat))).length=A.length:=by
   simp only [List.length_append,List.length_take,List.length_replicate,List.length_drop];omega
  refine Sl.keep (Ob.mk ⟨rfl,by ((try dsimp only);omega),by ((try dsimp only);rw [hl];omega)⟩ ?_);refine qb ?_;dsimp only;rw [← zsb (i:=i+m+2) oM,← k3,hq,List.take_append_of_le_length (by rw [List.length_take];omega),List.take_of_length_le (by rw [List.length_take];omega)]
theorem znb{p:Pl}(h:p.cl=true):(zE p).pts=kH (qP p.pts):=by unfold zE;dsimp only;rw [if_pos h]
theorem znc{p:Pl}(h:¬p.cl=true):(zE p).pts=qP p.pts:=by unfold zE;dsimp only;rw [if_neg h]
theorem ziJ(l:List Pt):(qP l).length<=l.length:=by
 rw [← zl3];have:=vJ l []
 simpa using this
theorem zsc{p:Pl}{q:List Pt}(h:(zE p).pts=q):LE (.agg [.sl ptE q,pr (p.cl=true)]) (.agg (plE (zE p))):=by
 subst h;exact .refl
theorem zd9(p:Pl)(hp:p.pts.length<=4096):zd Tryz.prog 85 [.agg (plE p)] [] (.agg (plE (zE p))) []:=by
 refine zc tok mix Tryz.func85 rfl rfl rfl ?_;refine zb.fresh _ _ (zjD p.pts hp) rfl (fun _ _=>rfl) (.inr (fun _ _=>rfl)) ?_;refine zb.give [2] 0 [.own 0] [(0,.arr 52 ptE 2 p.pts)] [] (.sl ptE (qP p.pts)) (zpR p.pts hp) LEs.refl rfl rfl rfl ⟨⟨_,rfl,rfl,trivial⟩,trivial⟩ rfl trivial ?_;have hd:=ziJ p.pts
 refine ⟨List Pt,fun q=>⟨[(1,.loc 0 0),(2,.loc 1 0),(3,.sl ptE q)],[(0,.box 85 [.sl ptE p.pts,pr (p.cl=true)]),(1,.box 85 [.val (.slice none 0 0),.val (.bool false)])],2,36,0⟩,
  fun q=>kH q=kH (qP p.pts)/\jF q/\q.length<=4096/\(¬p.cl=true->q=qP p.pts),fun q=>q.length,qP p.pts,?_,?_,?_⟩
 ·exact ⟨rfl,zbU _,oM,fun _=>rfl⟩
 ·exact zh [(0,some 0),(1,some 1)]
 rintro q ⟨t1,t2,t3,t4⟩
 refine Dr.k ?_;refine Br.mk (fun c=>?_) (fun c=>?_);rotate_left
 ·have c:¬p.cl=true:=c;exact zsc (by rw [znc c,t4 c])
 have c:p.cl=true:=c;have fin:kH q=q->LE (.agg [.sl ptE q,pr (p.cl=true)]) (.agg (plE (zE p))):=fun h=>zsc (by rw [znb c,← t1,h])
 intro hl1;refine Br.mk (fun m=>?_) (fun m=>?_);rotate_left
 ·have m:¬(1:Int) < q.length:=m;exact fin (zg9 oM)
 have m:(1:Int) < q.length:=m;intro hl2;refine Ar.o ?_;refine Ob.o ?_;intro z hz
 have hz:q[q.length - 1]? =some z:=by
  have hz:q[((q.length:Int) - 1).toNat]? =some z:=hz
  rwa [show ((q.length:Int) - 1).toNat=q.length - 1 by omega] at hz
 refine Ob.o ?_;intro f hf;have hf:q[0]? =some f:=hf;refine Br.mk (fun k=>?_) (fun k=>?_)
 ·have k:z=f:=qx.1 k;have et:=zg8 (show 1 < q.length by omega) hz hf k;intro hl4;refine Ar.o ?_;refine Ob.mk ⟨⟨dC,oM,oM,oM⟩,fun _ _=>rfl⟩ ?_;refine ⟨q.take (q.length - 1),⟨?_,?_,?_,fun h=>absurd c h⟩,z0 [(0,some 0),(1,some 1)] ⟨rfl,rfl,congrArg (fun q=>some (SV.sl ptE q)) (by rw [show ((q.length:Int) - 1 - 0).toNat=q.length - 1 by omega];rfl),trivial⟩ ⟨rfl,rfl,trivial⟩,?_⟩
  ·rw [← et,ziH t2,t1]
  ·rw [← et];exact zdc t2
  ·rw [List.length_take];omega
  ·show (q.take (q.length - 1)).length < q.length;rw [List.length_take];omega
 ·have k:¬z=f:=fun h=>k (qx.2 h)
  exact fin (zj3 hz hf k)
theorem zwi(p:Pl)(hp:p.pts.length<=4096):zd Tryz.prog 95 [.agg (plE p)] [] (.agg (plE (zE p))) []:=by
 refine zdg 1 tok mix Tryz.func95 rfl rfl rfl ?_;refine ⟨Pt,ptE,[],rfl,Ob.o2 ?_⟩
 refine ⟨Nat,fun i=>⟨[(1,.loc 0 0),(2,.loc 1 0),(3,.loc 2 0),(4,i64 (i:Int))],
   [(0,.box 85 [.sl ptE p.pts,pr (p.cl=true)]),(1,.box 85 [.val (.slice none 0 0),.val (.bool false)]),(2,.box 85 [.own 3,pr (p.cl=true)]),(3,.arr 52 ptE 2 (dd p.pts i))],4,74,0⟩,
  fun i=>i<=p.pts.length,fun i=>p.pts.length - i,0,?_,?_,?_⟩
 ·exact Nat.zero_le _
 ·exact zh [(0,some 0),(1,some 1),(2,some 3),(3,some 2)]
 rintro i hi
 have dl:=zxP p.pts i;intro hl1;refine Br.mk (fun g=>?_) (fun g=>?_)
 ·have g:(i:Int) < p.pts.length:=g;obtain ⟨x,hx⟩:∃x,p.pts[i]? =some x:=⟨_,List.getElem?_eq_getElem oM⟩;have same:∀{y:Pt},p.pts[(i:Int).toNat]? =some y->y=x:=fun h=>Option.some.inj ((show p.pts[i]? =some _ from h).symm.trans hx)
  refine Dr.d ?_;refine Br.mk (fun z=>?_) (fun z=>?_)
  ·have z:(i:Int)=0:=z;refine Ob.mk (by kernel_rfl) ?_;refine Dr.d ?_;refine Ob.o ?_;intro y hy;rw [same hy];refine ⟨Pt,ptE,[x],rfl,Ob.o0 ?_⟩;refine ⟨[x],rfl,Ob.o3 ?_⟩;refine Ob.mk (by kernel_rfl) ?_;refine Ar.o ?_;have i0:i=0:=oM;subst i0;refine ⟨1,oM,zM [(0,some 0),(1,some 1),(2,some 2),(3,some 5)] ⟨rfl,rfl,rfl,congrArg (fun q=>some (Mem.arr 52 ptE 2 q)) ?_,trivial⟩,by dsimp only;omega⟩;rw [zfD hx];rfl
  have z:¬(i:Int)=0:=z;obtain ⟨n,rfl⟩:∃n,i=n+1:=⟨i - 1,oM⟩;refine Ob.o ?_;intro y hy;rw [same hy];refine Ar.o ?_;refine Ob.o ?_;intro u hu
  have hu:p.pts[n]? =some u:=by
   have h:p.pts[(((n+1:Nat):Int) - 1).toNat]? =some u:=hu
   rwa [show (((n+1:Nat):Int) - 1).toNat=n by omega] at h
  refine Ob.mk (by kernel_rfl) ?_;refine Br.mk (fun k=>?_) (fun k=>?_)
  ·have k:¬u=x:=fun h=>k (qx.2 h.symm)
   refine Dr.d ?_;refine Ob.o ?_;intro y hy;rw [same hy];refine ⟨Pt,ptE,[x],rfl,Ob.o0 ?_⟩;refine ⟨[x],rfl,Ob.o3 ?_⟩;refine Ob.mk (by kernel_rfl) ?_;refine Ar.o ?_;refine ⟨n+2,oM,z0 [(0,some 0),(1,some 1),(2,some 2),(3,some 5)] ⟨rfl,rfl,rfl,congrArg (fun n=>some (i64 n)) oM,trivial⟩ ⟨rfl,rfl,rfl,congrArg (fun q=>some (Mem.arr 52 ptE 2 q)) ?_,trivial⟩,by dsimp only;omega⟩;rw [zl4 hu hx k]
  ·have k:u=x:=(qx.1 (Decidable.not_not.1 k)).symm;refine Ar.o ?_;refine ⟨n+2,oM,z0 [(0,some 0),(1,some 1),(2,some 2),(3,some 3)] ⟨rfl,rfl,rfl,congrArg (fun n=>some (i64 n)) oM,trivial⟩ ⟨rfl,rfl,rfl,congrArg (fun q=>some (Mem.arr 52 ptE 2 q)) ?_,trivial⟩,by dsimp only;omega⟩;rw [zoy hu hx k]
 have g:¬(i:Int) < p.pts.length:=g;have hd:=ziJ p.pts
 refine ⟨List Pt,fun q=>⟨[(1,.loc 0 0),(2,.loc 1 0),(3,.loc 2 0)],
   [(0,.box 85 [.sl ptE p.pts,pr (p.cl=true)]),(1,.box 85 [.val (.slice none 0 0),.val (.bool false)]),(2,.box 85 [.own 3,pr (p.cl=true)]),(3,.arr 52 ptE 2 q)],4,74,0⟩,
  fun q=>kH q=kH (qP p.pts)/\jF q/\q.length<=4096/\(¬p.cl=true->q=qP p.pts),fun q=>q.length,qP p.pts,?_,?_,?_⟩
 ·exact ⟨rfl,zbU _,oM,fun _=>rfl⟩
 ·exact zM [(0,some 0),(1,some 1),(2,some 2),(3,some 3)] ⟨rfl,rfl,rfl,congrArg (fun q=>some (Mem.arr 52 ptE 2 q)) (zsb oM),trivial⟩
 rintro q ⟨t1,t2,t3,t4⟩
 refine Dr.d ?_;refine Br.mk (fun c=>?_) (fun c=>?_);rotate_left
 ·have c:¬p.cl=true:=c;refine Ob.mk (by kernel_rfl) ?_;exact zsc (by rw [znc c,t4 c])
 have c:p.cl=true:=c;have fin:kH q=q->LE (.agg [.sl ptE q,pr (p.cl=true)]) (.agg (plE (zE p))):=fun h=>zsc (by rw [znb c,← t1,h])
 intro hl1;refine Br.mk (fun m=>?_) (fun m=>?_);rotate_left
 ·have m:¬(1:Int) < q.length:=m;refine Ob.mk (by kernel_rfl) ?_;exact fin (zg9 oM)
 have m:(1:Int) < q.length:=m;intro hl2;refine Ar.o ?_;refine Ob.o ?_;refine Ob.o ?_;intro z hz
 have hz:q[q.length - 1]? =some z:=by
  have hz:q[((q.length:Int) - 1).toNat]? =some z:=hz
  rwa [show ((q.length:Int) - 1).toNat=q.length - 1 by omega] at hz
 refine Ob.o ?_;refine Ob.o ?_;intro f hf;have hf:q[0]? =some f:=hf;refine Ob.mk (by kernel_rfl) ?_;refine Br.mk (fun k=>?_) (fun k=>?_)
 ·have k:z=f:=qx.1 k;have et:=zg8 (show 1 < q.length by omega) hz hf k;intro hl4;refine Ar.o ?_;refine Sl.keep (Ob.mk ⟨rfl,oM,oM⟩ ?_);refine ⟨q.take (q.length - 1),⟨?_,?_,?_,fun h=>absurd c h⟩,zM [(0,some 0),(1,some 1),(2,some 2),(3,some 4)] ⟨rfl,rfl,rfl,congrArg (fun q=>some (Mem.arr 52 ptE 2 q)) (by rw [show ((q.length:Int) - 1).toNat=q.length - 1 by omega]),trivial⟩,?_⟩
  ·rw [← et,ziH t2,t1]
  ·rw [← et];exact zdc t2
  ·rw [List.length_take];omega
  ·show (q.take (q.length - 1)).length < q.length;rw [List.length_take];omega
 ·have k:¬z=f:=fun h=>k (qx.2 h)
  exact fin (zj3 hz hf k)
theorem zux(a b:Pt)(p:Pen):zd Tryz.prog 182 [.agg (yi p),.agg (ptE a),.agg (ptE b)] [] (.sl ptE (vD a b p)) []:=by
 refine zc tok mix Tryz.func182 rfl rfl rfl ?_;refine Br.mk (fun h=>?_) (fun h=>?_)
 ·have h:p.c=5:=h;refine zb.t (p_cap a b p.w) ?_;exact qb (by unfold vD;rw [if_pos h])
 have h:¬p.c=5:=h;refine Br.mk (fun k=>?_) (fun k=>?_)
 ·have k:p.c=3:=k;refine zb.t (zmT b p.w) ?_;exact qb (by unfold vD;rw [if_neg h,if_pos k])
 have k:¬p.c=3:=k;have e:vD a b p=[]:=by unfold vD;rw [if_neg h,if_neg k]
 rw [e];exact ku
theorem zsd(a:Pt)(p:Pen):zd Tryz.prog 178 [.agg (ptE a),.agg (yi p)] [] (.sl ptE (zcJ a p)) []:=by
 refine zc tok mix Tryz.func178 rfl rfl rfl ?_;refine Br.mk (fun h=>?_) (fun h=>?_)
 ·have h:p.c=5:=h;refine zb.t (zu3 a p.w) ?_;exact qb (by unfold zcJ;rw [if_pos h])
 have h:¬p.c=5:=h;refine Br.mk (fun k=>?_) (fun k=>?_)
 ·have k:p.c=3:=k;refine zb.t (zmT a p.w) ?_;exact qb (by unfold zcJ;rw [if_neg h,if_pos k])
 have k:¬p.c=3:=k;have e:zcJ a p=[]:=by unfold zcJ;rw [if_neg h,if_neg k]
 rw [e];exact ku
theorem zxd(a b:Pt)(p:Pen):zd Tryz.prog 189 [.agg (ptE a),.agg (ptE b),.agg (yi p)] [] (.sl ptE (vD a b p)) []:=by
 refine zc tok mix Tryz.func189 rfl rfl rfl ?_;refine Br.mk (fun h=>?_) (fun h=>?_)
 ·have h:p.c=5:=h;refine zb.t (r_cap a b p.w) ?_;exact qb (by unfold vD;rw [if_pos h])
 have h:¬p.c=5:=h;refine Br.mk (fun k=>?_) (fun k=>?_)
 ·have k:p.c=3:=k;refine zb.t (zwD b p.w) ?_;exact qb (by unfold vD;rw [if_neg h,if_pos k])
 have k:¬p.c=3:=k;have e:vD a b p=[]:=by unfold vD;rw [if_neg h,if_neg k]
 rw [e];exact ku
theorem zxe(a:Pt)(p:Pen):zd Tryz.prog 188 [.agg (ptE a),.agg (yi p)] [] (.sl ptE (zcJ a p)) []:=by
 refine zc tok mix Tryz.func188 rfl rfl rfl ?_;refine Br.mk (fun h=>?_) (fun h=>?_)
 ·have h:p.c=5:=h;refine zb.t (zxL a p.w) ?_;exact qb (by unfold zcJ;rw [if_pos h])
 have h:¬p.c=5:=h;refine Br.mk (fun k=>?_) (fun k=>?_)
 ·have k:p.c=3:=k;refine zb.t (zwD a p.w) ?_;exact qb (by unfold zcJ;rw [if_neg h,if_pos k])
 have k:¬p.c=3:=k;have e:zcJ a p=[]:=by unfold zcJ;rw [if_neg h,if_neg k]
 rw [e];exact ku
theorem yL{l:List Pt}{j:Nat}{x:Pt}(h:l[j]? =some x):x=nth l j:=by
 unfold nth;rw [List.getD_eq_getElem?_getD,h];rfl
theorem znd(l:List Pt)(i:Int)(j:Nat)(hl:0 < l.length/\l.length<=4096)(hi: -1<=i/\i<=l.length)(hj:((i+l.length) % l.length).toNat=j):
  zd Tryz.prog 179 [i64 i,.ptr [.sl ptE l],.ptr [i64 (l.length:Int)]] [] (.agg (ptE (nth l j))) []:=by
 refine zc tok mix Tryz.func179 rfl rfl rfl ?_;have m1:=Int.emod_nonneg (i+l.length) (show (l.length:Int)≠0 by omega);have m2:=Int.emod_lt_of_pos (i+l.length) (show 0 < (l.length:Int) by omega);refine Dr.k ?_;refine Ar.o ?_;refine Dv.pos ⟨oM,oM⟩ ?_;refine Ob.mk ⟨m1,m2⟩ ?_;intro x hx;have hx:l[j]? =some x:=by rw [← hj];exact hx
 rw [yL hx];exact .refl
def y8(out rs:List (List Pt)):List (List Pt):=out++rs.filter fun r=>decide (0 < r.length)
theorem zl5(out:List (List Pt))(r:List Pt):y8 out [r]=out++kT r:=by
 unfold y8 kT
 cases r with
 | nil=>rfl
 | cons a b=>rfl
theorem zse(out:List (List Pt))(r s:List Pt):y8 out [r,s]=out++kT r++kT s:=by
 unfold y8 kT
 cases r <;> cases s <;> simp
theorem zeG{out rs:List (List Pt)}{i:Nat}{x:List Pt}(h:rs[i]? =some x):y8 out (rs.take (i+1))=if 0 < x.length then y8 out (rs.take i)++[x] else y8 out (rs.take i):=by
 unfold y8;rw [List.take_add_one,h]
 by_cases c:0 < x.length
 ·rw [if_pos c];simp [c]
 ·rw [if_neg c];simp [c]
theorem zhc(out rs:List (List Pt)):(y8 out rs).length<=out.length+rs.length:=by
 unfold y8;rw [List.length_append];have:=List.length_filter_le (fun r:List Pt=>decide (0 < r.length)) rs;omega
theorem zsf{out rs:List (List Pt)}(h:∀r∈rs,0 < r.length):y8 out rs=out++rs:=by
 unfold y8;congr 1;exact List.filter_eq_self.2 fun r hr=>decide_eq_true (h r hr)
theorem zaC{r q:List Pt}(h:q∈kT r):0 < q.length:=by
 unfold kT at h
 split at h
 ·cases h
 ·rename_i k;rw [List.mem_singleton.1 h];exact Nat.pos_of_ne_zero fun e=>k (List.eq_nil_of_length_eq_zero e)
theorem zoz{a v b:Pt}{p:Pen}:∀r∈yP a v b p,0 < r.length:=by
 intro r hr;unfold yP at hr
 split at hr
 ·cases hr
 ·split at hr
  ·exact zaC hr
  ·split at hr
   ·cases hr
   ·exact zaC hr
theorem zvC(rs:List (List Pt))(hr:rs.length<=4):zd Tryz.prog 177 [.own 1,.loc 0 0] [(0,.box 34 [.val (.slice none 0 0)]),(1,.arr 76 zw 1 rs)] (.tup []) [(0,.box 34 [.own 2]),(2,.arr 76 zw 1 (y8 [] rs))]:=by
 refine uq tok mix Tryz.func177 rfl rfl rfl ?_;intro hl1;refine ⟨Nat,fun i=>⟨[(1,.loc 0 0),(5,.own 1),(6,i64 (rs.length:Int)),(7,i64 (i:Int))],[(0,.box 34 [.own 2]),(2,.arr 76 zw 1 (y8 [] (rs.take i))),(1,.arr 76 zw 1 rs)],3,19,2⟩,fun i=>i<=rs.length,fun i=>rs.length - i,0,?_,?_,?_⟩
 ·exact Nat.zero_le _
 ·exact zh [(0,some 0),(1,some 1),(2,none)]
 rintro i hi
 have pl:=zhc ([]:List (List Pt)) (rs.take i);rw [List.length_take] at pl;refine Br.mk (fun g=>?_) (fun g=>?_)
 ·have g:(i:Int) < rs.length:=g;refine Ob.o ?_;refine Ob.o ?_;intro x hx;have hx:rs[i]? =some x:=hx;have e:=zeG (out:=([]:List (List Pt))) hx;intro hl3;refine Br.mk (fun k=>?_) (fun k=>?_)
  ·have k:(0:Int) < x.length:=k;rw [if_pos oM] at e;refine ⟨List Pt,zw,[x],rfl,Ob.o0 ?_⟩;refine ⟨[x],rfl,Ob.mk ⟨(by show _*(24:Int)<=_;simp only [List.length_cons,List.length_nil] at pl ⊢;omega),(by simp only [List.length_cons,List.length_nil] at pl ⊢;omega),dC,fun _ _=>rfl⟩ ?_⟩;refine Ar.o ?_;exact ⟨i+1,oM,zM [(0,some 0),(1,some 1),(2,some 4)] ⟨rfl,congrArg (fun q=>some (Mem.arr 76 zw 1 q)) e.symm,rfl,trivial⟩,by dsimp only;omega⟩
  ·have k:¬(0:Int) < x.length:=k;rw [if_neg oM] at e;refine Ar.o ?_;exact ⟨i+1,oM,zM [(0,some 0),(1,some 1),(2,some 2)] ⟨rfl,congrArg (fun q=>some (Mem.arr 76 zw 1 q)) e.symm,rfl,trivial⟩,by dsimp only;omega⟩
 ·have g:¬(i:Int) < rs.length:=g;exact ⟨⟨[],[(0,.box 34 [.own 2]),(2,.arr 76 zw 1 (y8 [] rs))],3,19,2⟩,zM [(0,some 0),(1,some 1),(2,some 2)] ⟨rfl,congrArg (fun q=>some (Mem.arr 76 zw 1 (y8 [] q))) (List.take_of_length_le oM),trivial⟩,rfl,.refl⟩
theorem zsg(out rs:List (List Pt))(ho:out.length<=100000)(hr:rs.length<=4):zd Tryz.prog 177 [.own 2,.loc 0 0] [(0,.box 34 [.own 1]),(1,.arr 76 zw 1 out),(2,.arr 76 zw 1 rs)] (.tup []) [(0,.box 34 [.own 3]),(3,.arr 76 zw 1 (y8 out rs))]:=by
 refine uq tok mix Tryz.func177 rfl rfl rfl ?_;intro hl1;refine ⟨Nat,fun i=>⟨[(1,.loc 0 0),(5,.own 2),(6,i64 (rs.length:Int)),(7,i64 (i:Int))],[(0,.box 34 [.own 3]),(3,.arr 76 zw 1 (y8 out (rs.take i))),(2,.arr 76 zw 1 rs)],4,19,3⟩,fun i=>i<=rs.length,fun i=>rs.length - i,0,?_,?_,?_⟩
 ·exact Nat.zero_le _
 ·exact zM [(0,some 0),(1,some 1),(2,some 2),(3,some 1)] ⟨rfl,congrArg (fun q=>some (Mem.arr 76 zw 1 q)) (List.append_nil out).symm,rfl,trivial⟩
 rintro i hi
 have pl:=zhc out (rs.take i);rw [List.length_take] at pl;refine Br.mk (fun g=>?_) (fun g=>?_)
 ·have g:(i:Int) < rs.length:=g;refine Ob.o ?_;refine Ob.o ?_;intro x hx;have hx:rs[i]? =some x:=hx;have e:=zeG (out:=out) hx;intro hl3;refine Br.mk (fun k=>?_) (fun k=>?_)
  ·have k:(0:Int) < x.length:=k;rw [if_pos oM] at e;refine ⟨List Pt,zw,[x],rfl,Ob.o0 ?_⟩;refine ⟨[x],rfl,Ob.mk ⟨(by show _*(24:Int)<=_;simp only [List.length_cons,List.length_nil] at pl ⊢;omega),(by simp only [List.length_cons,List.length_nil] at pl ⊢;omega),dC,fun _ _=>rfl⟩ ?_⟩;refine Ar.o ?_;exact ⟨i+1,oM,zM [(0,some 0),(1,some 1),(2,some 2),(3,some 5)] ⟨rfl,congrArg (fun q=>some (Mem.arr 76 zw 1 q)) e.symm,rfl,trivial⟩,by dsimp only;omega⟩
  ·have k:¬(0:Int) < x.length:=k;rw [if_neg oM] at e;refine Ar.o ?_;exact ⟨i+1,oM,zM [(0,some 0),(1,some 1),(2,some 2),(3,some 3)] ⟨rfl,congrArg (fun q=>some (Mem.arr 76 zw 1 q)) e.symm,rfl,trivial⟩,by dsimp only;omega⟩
 ·have g:¬(i:Int) < rs.length:=g;exact ⟨⟨[],[(0,.box 34 [.own 3]),(3,.arr 76 zw 1 (y8 out rs))],4,19,3⟩,zM [(0,some 0),(1,some 1),(2,some 2),(3,some 3)] ⟨rfl,congrArg (fun q=>some (Mem.arr 76 zw 1 (y8 out q))) (List.take_of_length_le oM),trivial⟩,rfl,.refl⟩
theorem zvD(out rs:List (List Pt))(ho:out.length<=100000)(hr:rs.length<=4):zd Tryz.prog 177 [.sl zw rs,.loc 0 0] [(0,.box 34 [.own 1]),(1,.arr 76 zw 1 out)] (.tup []) [(0,.box 34 [.own 2]),(2,.arr 76 zw 1 (y8 out rs))]:=by
 refine uq tok mix Tryz.func177 rfl rfl rfl ?_;intro hl1;refine ⟨Nat,fun i=>⟨[(1,.loc 0 0),(5,.sl zw rs),(6,i64 (rs.length:Int)),(7,i64 (i:Int))],[(0,.box 34 [.own 2]),(2,.arr 76 zw 1 (y8 out (rs.take i)))],3,19,2⟩,fun i=>i<=rs.length,fun i=>rs.length - i,0,?_,?_,?_⟩
 ·exact Nat.zero_le _
 ·exact zM [(0,some 0),(1,some 1),(2,some 1)] ⟨rfl,congrArg (fun q=>some (Mem.arr 76 zw 1 q)) (List.append_nil out).symm,trivial⟩
 rintro i hi
 have pl:=zhc out (rs.take i);rw [List.length_take] at pl;refine Br.mk (fun g=>?_) (fun g=>?_)
 ·have g:(i:Int) < rs.length:=g;refine Ob.o ?_;intro x hx;have hx:rs[i]? =some x:=hx;have e:=zeG (out:=out) hx;intro hl3;refine Br.mk (fun k=>?_) (fun k=>?_)
  ·have k:(0:Int) < x.length:=k;rw [if_pos oM] at e;refine ⟨List Pt,zw,[x],rfl,Ob.o0 ?_⟩;refine ⟨[x],rfl,Ob.mk ⟨(by show _*(24:Int)<=_;simp only [List.length_cons,List.length_nil] at pl ⊢;omega),(by simp only [List.length_cons,List.length_nil] at pl ⊢;omega),dC,fun _ _=>rfl⟩ ?_⟩;refine Ar.o ?_;exact ⟨i+1,oM,zM [(0,some 0),(1,some 1),(2,some 4)] ⟨rfl,congrArg (fun q=>some (Mem.arr 76 zw 1 q)) e.symm,trivial⟩,by dsimp only;omega⟩
  ·have k:¬(0:Int) < x.length:=k;rw [if_neg oM] at e;refine Ar.o ?_;exact ⟨i+1,oM,zM [(0,some 0),(1,some 1),(2,some 2)] ⟨rfl,congrArg (fun q=>some (Mem.arr 76 zw 1 q)) e.symm,trivial⟩,by dsimp only;omega⟩
 ·have g:¬(i:Int) < rs.length:=g;exact ⟨⟨[],[(0,.box 34 [.own 2]),(2,.arr 76 zw 1 (y8 out rs))],3,19,2⟩,zM [(0,some 0),(1,some 1),(2,some 2)] ⟨rfl,congrArg (fun q=>some (Mem.arr 76 zw 1 (y8 out q))) (List.take_of_length_le oM),trivial⟩,rfl,.refl⟩
theorem zwf(out:List (List Pt))(r:List Pt)(ho:out.length<=100000):zd Tryz.prog 187 [.own 0,.sl ptE r] [(0,.arr 76 zw 1 out)] (.own 1) [(1,.arr 76 zw 1 (out++kT r))]:=by
 refine uq tok mix Tryz.func187 rfl rfl rfl ?_;intro hl1;refine Br.mk (fun k=>?_) (fun k=>?_)
 ·have k:(r.length:Int)=0:=k;have e:out++kT r=out:=by rw [List.eq_nil_of_length_eq_zero (show r.length=0 by omega)];unfold kT;rw [if_pos rfl,List.append_nil]
  rw [e];exact ⟨⟨[(4,.own 1)],[(1,.arr 76 zw 1 out)],2,13,1⟩,zh [(0,some 0),(1,some 0)],rfl,.refl⟩
 ·have k:¬(r.length:Int)=0:=k;have e:out++kT r=out++[r]:=by unfold kT;rw [if_neg (fun h=>k (by rw [h];rfl))]
  rw [e];refine ⟨List Pt,zw,[r],rfl,Ob.o0 ?_⟩;refine ⟨[r],rfl,Ob.o9 ?_⟩;exact ⟨⟨[(4,.own 1)],[(1,.arr 76 zw 1 (out++[r]))],2,13,1⟩,zh [(0,some 0),(1,some 2)],rfl,.refl⟩
theorem ztG(p:Pt):zd Tryz.prog 143 [.agg (ptE p)] [] (pr (¬zo p)) []:=by
 refine zc tok mix Tryz.func143 rfl rfl rfl ?_;refine zb.t (qc p) ?_;exact kZ Iff.rfl
theorem zsh(F:FuncId)(hF:∀p,zd Tryz.prog F [.agg (ptE p)] [] (pr (¬zo p)) [])(xs:List Pt):zd Tryz.prog 150 [.sl ptE xs,.fn F []] [] (i64 (ze2 xs)) []:=by
 refine zc tok mix Tryz.func150 rfl rfl rfl ?_;intro hl0;refine ⟨Int,fun i=>⟨[(8,i64 i),(7,i64 xs.length),(0,.sl ptE xs),(1,.fn F [])],[],0,19,0⟩,fun i=>0<=i/\i<=xs.length/\∀(j:Nat) q,(j:Int) < i->xs[j]? =some q->zo q,fun i=>((xs.length:Int) - i).toNat,0,?_,?_,?_⟩
 ·exact ⟨oM,oM,fun j q hj=>by omega⟩
 ·exact zh []
 rintro i ⟨h1,h2,h3⟩
 refine Br.mk (fun h4=>?_) (fun h4=>?_)
 ·refine Ob.o ?_;intro x hx;refine zb.t (hF x) ?_;refine Br.mk (fun h5=>?_) (fun h5=>?_)
  ·refine zu ?_;rw [zld (i:=i.toNat) (fun j q hj=>h3 j q oM) hx h5];omega
  ·refine Ar.o ?_;refine ⟨i+1,⟨oM,oM,fun j q hj hq=>?_⟩,zh [],by dsimp only;omega⟩
   by_cases e:j=i.toNat
   ·subst e;rw [hx] at hq;cases hq;exact Decidable.not_not.1 h5
   ·exact h3 j q oM hq
 ·refine zu (zc5 fun p hp=>?_).symm;obtain ⟨j,hj,he⟩:=List.getElem_of_mem hp;exact h3 j p oM (by rw [← he];exact List.getElem?_eq_getElem hj)
theorem zl6(F:FuncId)(hF:∀p,zd Tryz.prog F [.agg (ptE p)] [] (pr (¬zo p)) [])(xs:List Pt):zd Tryz.prog 97 [.sl ptE xs,.fn F []] [] (pr (¬∀p∈xs,zo p)) []:=by
 refine zc tok mix Tryz.func97 rfl rfl rfl ?_;refine zb.t (zsh F hF xs) ?_;exact kZ zdX
def vK(rs:List (List Pt)):Prop:=∀r∈rs,∀p∈r,zo p
instance (rs:List (List Pt)):Decidable (vK rs):=inferInstanceAs (Decidable (∀_∈_,_))
def ptsE(rs:List (List Pt)):SV:=.tup [i64 (if vK rs then (kN rs:Int) else 0),pr (vK rs)]
theorem zhd(rs:List (List Pt))(hs:(kN rs:Int)<=4611686018427387904):zd Tryz.prog 88 [.sl zw rs] [] (ptsE rs) []:=by
 refine zc tok mix Tryz.func88 rfl rfl rfl ?_;intro hl1;refine ⟨Nat,fun i=>⟨[(4,i64 (kN (rs.take i):Int)),(7,.sl zw rs),(8,i64 (rs.length:Int)),(9,i64 (i:Int))],[],0,21,0⟩,fun i=>i<=rs.length/\vK (rs.take i),fun i=>rs.length - i,0,?_,?_,?_⟩
 ·exact ⟨Nat.zero_le _,fun r hr=>by cases hr⟩
 ·exact zh []
 rintro i ⟨h1,h2⟩
 refine Br.mk (fun g=>?_) (fun g=>?_)
 ·have g:(i:Int) < rs.length:=g;refine Ob.o ?_;intro x hx;have hx:rs[i]? =some x:=hx;refine zb.t (zl6 143 ztG x) ?_;refine Br.mk (fun k=>?_) (fun k=>?_)
  ·have k:¬vK rs:=fun h=>k (h x (List.mem_of_getElem? hx))
   refine zS (zu (by rw [if_neg k])) (ze k)
  ·have k:∀p∈x,zo p:=Decidable.not_not.1 k;intro hl4;have c1:=zcr hx;have c2:=zfw rs (i+1);(iterate 2 refine Ar.o ?_);refine ⟨i+1,⟨oM,zc6 hx h2 k⟩,z0 [] ⟨congrArg (fun n=>some (i64 n)) oM,rfl,rfl,rfl,trivial⟩ trivial,by dsimp only;omega⟩
 ·have g:¬(i:Int) < rs.length:=g;rw [List.take_of_length_le oM] at h2;have e:kN (rs.take i)=kN rs:=by rw [List.take_of_length_le oM]
  exact zS (zu (by rw [if_pos h2,e])) (kC h2)
theorem zwv(l:List Pt):zd Tryz.prog 124 [.sl ptE l] [] (pr (∀p∈l,zo p)) []:=by
 refine zc tok mix Tryz.func124 rfl rfl rfl ?_;refine ⟨Nat,fun i=>⟨[(0,.sl ptE l),(3,i64 (i:Int))],[],0,16,0⟩,fun i=>i<=l.length/\∀p∈l.take i,zo p,fun i=>l.length - i,0,?_,?_,?_⟩
 ·exact ⟨Nat.zero_le _,fun p hp=>by cases hp⟩
 ·exact zh []
 rintro i ⟨h1,h2⟩
 intro hl1;refine Br.mk (fun g=>?_) (fun g=>?_)
 ·have g:(i:Int) < l.length:=g;refine Ob.o ?_;intro x hx;have hx:l[i]? =some x:=hx;refine zb.t (yG x) ?_;refine Br.mk (fun b=>ze fun k=>b (k x (List.mem_of_getElem? hx))) (fun b=>?_);have b:=Decidable.not_not.1 b;refine Ar.o ?_;refine ⟨i+1,⟨oM,fun p hp=>?_⟩,zh [],by dsimp only;omega⟩;rw [List.take_add_one,hx] at hp
  rcases List.mem_append.1 hp with hp | hp
  ·exact h2 p hp
  ·simp at hp;rw [hp];exact b
 ·have g:¬(i:Int) < l.length:=g;rw [List.take_of_length_le oM] at h2;exact kC h2
theorem zws(rs:List (List Pt))(hs:(kN rs:Int)<=4611686018427387904):zd Tryz.prog 70 [.sl zw rs] [] (i64 (kN rs:Int)) []:=by
 refine zc tok mix Tryz.func70 rfl rfl rfl ?_;refine ⟨Nat,fun i=>⟨[(0,.sl zw rs),(3,i64 (kN (rs.take i):Int)),(4,i64 (i:Int))],[],0,19,0⟩,fun i=>i<=rs.length,fun i=>rs.length - i,0,?_,?_,?_⟩
 ·exact Nat.zero_le _
 ·exact zh []
 rintro i h1
 intro hl1;refine Br.mk (fun g=>?_) (fun g=>?_)
 ·have g:(i:Int) < rs.length:=g;refine Ob.o ?_;intro x hx;have hx:rs[i]? =some x:=hx;intro hl4;have c1:=zcr hx;have c2:=zfw rs (i+1);(iterate 2 refine Ar.o ?_);refine ⟨i+1,oM,z0 [] ⟨rfl,congrArg (fun n=>some (i64 n)) oM,rfl,trivial⟩ trivial,by dsimp only;omega⟩
 ·have g:¬(i:Int) < rs.length:=g;exact zu (by rw [List.take_of_length_le oM])
end Go.Gs
