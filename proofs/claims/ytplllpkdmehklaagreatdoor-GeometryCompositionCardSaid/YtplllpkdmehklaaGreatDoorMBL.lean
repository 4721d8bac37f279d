/- Points without repetition, both texts. -/
import Derived.Test.YtplllpkdmehklaaGreatDoorMA
import Derived.Test.YtplllpkdmehklaaGreatDoorMBK
set_option maxRecDepth 100000
set_option maxHeartbeats 8000000
set_option linter.all false
namespace Go.Gs
open Go.Proofs
theorem zeS:∀(l A:List Pt) (p:Pt),qc (A++[p]) l=A++jL (p::l)
 | [],A,p=>rfl
 | x::r,A,p=>by
  have e:qc (A++[p]) (x::r)=qc (yk (A++[p]) x) r:=rfl;rw [e];unfold yk;rw [List.getLast?_concat];have d:jL (p::x::r)=if p=x then jL (x::r) else p::jL (x::r):=rfl
  rw [d]
  by_cases c:p=x
  ·subst c;rw [if_pos rfl,if_pos rfl];exact zeS r A p
  ·rw [if_neg (fun k=>c (Option.some.inj k)),if_neg c,zeS r (A++[p]) x,List.append_assoc];rfl
theorem zoV(l:List Pt):qc [] l=jL l:=by
 cases l with
 | nil=>rfl
 | cons p r=>exact zeS r [] p
def dd(xs:List Pt)(i:Nat):List Pt:=qc [] (xs.take i)
theorem zhR{xs:List Pt}{i:Nat}{x:Pt}(h:xs[i]? =some x):dd xs (i+1)=yk (dd xs i) x:=by
 unfold dd;exact zlf h
theorem zxa{xs:List Pt}{i:Nat}(h:xs.length<=i):dd xs i=jL xs:=by
 unfold dd;rw [List.take_of_length_le h,zoV]
theorem zsh{xs:List Pt}{i:Nat}{z:Pt}(h:xs[i]? =some z):(dd xs (i+1)).getLast?=some z:=by
 rw [zhR h];exact zws _ _
theorem zBO{xs:List Pt}{x:Pt}(h:xs[0]? =some x):dd xs 1=xs.take 1:=by
 rw [zhR h,List.take_add_one,h];rfl
theorem zsi{xs:List Pt}{i:Nat}{x z:Pt}(hz:xs[i]? =some z)(hx:xs[i+1]? =some x)(e:z=x):dd xs (i+2)=dd xs (i+1):=by
 rw [zhR hx];unfold yk;rw [zsh hz,e,if_pos rfl]
theorem zoW{xs:List Pt}{i:Nat}{x z:Pt}(hz:xs[i]? =some z)(hx:xs[i+1]? =some x)(e:¬z=x):dd xs (i+2)=dd xs (i+1)++[x]:=by
 rw [zhR hx];unfold yk;rw [zsh hz,if_neg (fun k=>e (Option.some.inj k))]
theorem zzq{xs:List Pt}{i:Nat}{x:Pt}(h:xs[i]? =some x):xs.take (i+1)=xs.take i++[x]:=by
 rw [List.take_add_one,h];rfl
theorem zt7(xs:List Pt)(hx:xs.length<=4096):zd Tryz.prog 254 [.own 0] [(0,.arr 63 ptE 2 xs)] (.sl ptE (jL xs)) []:=by
 refine zhh 1 tok mix Tryz.func254 rfl rfl rfl ?_;intro hl1;refine Br.mk (fun g=>?_) (fun g=>?_)
 ·have g:(xs.length:Int) < 2:=g;refine qy ?_
  match xs,g with
  | [],_=>rfl
  | [p],_=>rfl
  | _::_::_,g=>exact absurd g (by simp only [List.length_cons];omega)
 have g:¬(xs.length:Int) < 2:=g;refine ⟨Nat,fun i=>⟨[(0,.own 0),(3,i64 ((i:Int)+1))],[(0,.arr 63 ptE 2 xs)],1,61,1⟩,fun i=>i+1<=xs.length/\dd xs (i+1)=xs.take (i+1),fun i=>xs.length - i,0,?_,?_,?_⟩
 ·exact ⟨oM,zBO (List.getElem?_eq_getElem oM)⟩
 ·exact zf [(0,some 0)]
 rintro i ⟨h1,h2⟩
 intro hl3;refine Br.mk (fun g4=>?_) (fun g4=>?_);rotate_left
 ·have g4:¬(i:Int)+1 < xs.length:=g4;refine qy ?_;rw [← zxa (i:=i+1) oM,h2,List.take_of_length_le oM]
 have g4:(i:Int)+1 < xs.length:=g4;refine Dr.k ?_;refine Ob.mk ⟨oM,g4⟩ ?_;refine Ob.mk ⟨oM,g4⟩ ?_;intro x hx'
 have hx0:xs[i+1]? =some x:=by
  have h:xs[((i:Int)+1).toNat]? =some x:=hx'
  rwa [show ((i:Int)+1).toNat=i+1 by omega] at h
 refine Ar.o ?_;refine Ob.o4 ?_;refine Ob.o4 ?_;intro z hz'
 have hz0:xs[i]? =some z:=by
  have h:xs[((i:Int)+1 - 1).toNat]? =some z:=hz'
  rwa [show ((i:Int)+1 - 1).toNat=i by omega] at h
 refine Br.mk (fun k=>?_) (fun k=>?_);rotate_left
 ·have k:¬z=x:=fun h=>k (qJ.2 h.symm)
  refine Ar.o ?_;refine ⟨i+1,⟨oM,?_⟩,z9 [(0,some 0)] ⟨rfl,congrArg (fun n=>some (i64 n)) oM,trivial⟩ ⟨rfl,trivial⟩,by dsimp only;omega⟩;rw [zoW hz0 hx0 k,h2,zzq hx0]
 have k:z=x:=(qJ.1 k).symm;refine Sl.win (Ob.mk ⟨oM,oM,oM,oM⟩ ?_)
 refine ⟨Nat×Nat×List Pt,fun s=>⟨[(0,.own 0),(3,i64 (s.2.1:Int)),(4,.win 0 2 ((i:Int)+1) ((xs.length:Int) - ((i:Int)+1))),(5,i64 ((s.1:Int)+1))],[(0,.arr 63 ptE 2 s.2.2)],1,61,1⟩,
  fun s=>i+1+s.1 < xs.length/\s.2.2.length=xs.length/\s.2.2.take s.2.1=dd xs (i+s.1+2)/\s.2.1=(dd xs (i+s.1+2)).length/\s.2.1<=i+1+s.1/\∀j,i+1+s.1<=j->s.2.2[j]? =xs[j]?,fun s=>xs.length - s.1,(0,i+1,xs),?_,?_,?_⟩
 ·have e:=zsi hz0 hx0 k;refine ⟨by dsimp only;omega,rfl,?_,?_,by dsimp only;omega,fun j _=>rfl⟩
  ·show xs.take (i+1)=dd xs (i+0+2);rw [show i+0+2=i+2 from rfl,e,h2]
  ·show i+1=(dd xs (i+0+2)).length;rw [show i+0+2=i+2 from rfl,e,h2,List.length_take];omega
 ·exact z9 [(0,some 0)] ⟨rfl,congrArg (fun n=>some (i64 n)) (show ((i+1:Nat):Int)=(i:Int)+1 by omega).symm,rfl,rfl,trivial⟩ ⟨rfl,trivial⟩
 rintro ⟨m,q,A⟩ ⟨k1,k2,k3,k4,k5,k6⟩
 dsimp only at k1 k2 k3 k4 k5 k6;refine Ob.o ?_;refine Br.mk (fun g7=>?_) (fun g7=>?_)
 ·have g7:(m:Int)+1 < (xs.length:Int) - ((i:Int)+1):=g7;refine Dr.k ?_;refine Ob.mk ⟨by ((try dsimp only);omega),by ((try dsimp only);omega),g7⟩ ?_;refine Ob.o5 ?_;intro y hy'
  have hy0:A[i+m+2]? =some y:=by
   have h:A[((i:Int)+1+((m:Int)+1)).toNat]? =some y:=hy'
   rwa [show ((i:Int)+1+((m:Int)+1)).toNat=i+m+2 by omega] at h
  have hy1:xs[i+m+2]? =some y:=by rw [← k6 _ oM];exact hy0
  refine Ar.o ?_;refine Ob.o21 ?_;refine Ob.o5 ?_;intro u hu'
  have hu0:A[i+m+1]? =some u:=by
   have h:A[((i:Int)+1+((m:Int)+1 - 1)).toNat]? =some u:=hu'
   rwa [show ((i:Int)+1+((m:Int)+1 - 1)).toNat=i+m+1 by omega] at h
  have hu1:xs[i+m+1]? =some u:=by rw [← k6 _ oM];exact hu0
  refine Br.mk (fun d=>?_) (fun d=>?_)
  ·have d:¬u=y:=fun h=>d (qJ.2 h.symm)
   have e:=zoW hu1 hy1 d;refine Ob.mk ⟨by ((try dsimp only);omega),by ((try dsimp only);omega),g7⟩ ?_;refine Ob.o5 ?_;intro y' hy''
   have ey:y'=y:=by
    have h:A[((i:Int)+1+((m:Int)+1)).toNat]? =some y':=hy'';rw [show ((i:Int)+1+((m:Int)+1)).toNat=i+m+2 by omega,hy0] at h;exact (Option.some.inj h).symm
   rw [ey];refine Ob.o5 ?_;refine Ob.o5 ?_;intro t _;refine ⟨y,rfl,?_⟩;refine Ar.fit (by (try dsimp only);omega) ?_;refine Ar.o ?_;have hq:((q:Int)).toNat=q:=Int.toNat_natCast q
   refine ⟨(m+1,q+1,A.set q y),⟨by dsimp only;omega,by rw [List.length_set];exact k2,?_,?_,by dsimp only;omega,fun j hj=>?_⟩,
    z9 [(0,some 0)] ⟨rfl,congrArg (fun n=>some (i64 n)) (by (try dsimp only);omega),rfl,congrArg (fun n=>some (i64 n)) (by (try dsimp only);omega),trivial⟩ ⟨congrArg (fun a=>some (Mem.arr 63 ptE 2 a)) (by rw [hq]),trivial⟩,by dsimp only;omega⟩
   ·show (A.set q y).take (q+1)=dd xs (i+m+1+2);rw [e,← k3];have hlt:q < (A.set q y).length:=by rw [List.length_set];omega
    rw [List.take_add_one,List.take_set_of_le (Nat.le_refl q),List.getElem?_set_self oM];rfl
   ·show q+1=(dd xs (i+m+1+2)).length;rw [e,List.length_append,← k4];rfl
   ·show (A.set q y)[j]? =xs[j]?;have hj:i+1+(m+1)<=j:=hj;rw [List.getElem?_set_ne oM];exact k6 j oM
  ·have d:u=y:=(qJ.1 (Decidable.not_not.1 d)).symm;have e:=zsi hu1 hy1 d;refine Ar.o ?_
   refine ⟨(m+1,q,A),⟨by dsimp only;omega,k2,?_,?_,by dsimp only;omega,fun j hj=>k6 j (by dsimp only at hj;omega)⟩,
    z9 [(0,some 0)] ⟨rfl,rfl,rfl,congrArg (fun n=>some (i64 n)) oM,trivial⟩ ⟨rfl,trivial⟩,by dsimp only;omega⟩
   ·show A.take q=dd xs (i+m+1+2);rw [e];exact k3
   ·show q=(dd xs (i+m+1+2)).length;rw [e];exact k4
 ·have g7:¬(m:Int)+1 < (xs.length:Int) - ((i:Int)+1):=g7;refine Sl.win (Ob.mk ⟨by ((try dsimp only);omega),by ((try dsimp only);omega),by ((try dsimp only);omega),by ((try dsimp only);omega)⟩ ?_);refine ⟨zp,rfl,Ob.o21 ?_⟩;have hq:((q:Int)).toNat=q:=Int.toNat_natCast q
  have hl:(A.take (q:Int).toNat++(List.replicate ((A.length:Int) - (q:Int)).toNat zp++A.drop ((q:Int).toNat+((A.length:Int) - (q:Int)).toNat))).length=A.length:=by
   simp only [List.length_append,List.length_take,List.length_replicate,List.length_drop];omega
  refine Sl.keep (Ob.mk ⟨rfl,by ((try dsimp only);omega),by ((try dsimp only);rw [hl];omega)⟩ ?_);refine qy ?_;dsimp only;rw [← zxa (i:=i+m+2) oM,← k3,hq,List.take_append_of_le_length (by rw [List.length_take];omega),List.take_of_length_le (by rw [List.length_take];omega)]
theorem zqI{p:Pl}(h:p.cl=true):(zL p).pts=qi (jL p.pts):=by unfold zL;dsimp only;rw [if_pos h]
theorem zqJ{p:Pl}(h:¬p.cl=true):(zL p).pts=jL p.pts:=by unfold zL;dsimp only;rw [if_neg h]
theorem zlh(l:List Pt):(jL l).length<=l.length:=by
 rw [← zoV];have:=zfN l []
 simpa using this
theorem zxb{p:Pl}{q:List Pt}(h:(zL p).pts=q):LE (.agg [.sl ptE q,pr (p.cl=true)]) (.agg (plE (zL p))):=by
 subst h;exact .refl
theorem zfP(p:Pl)(hp:p.pts.length<=4096):zd Tryz.prog 207 [.agg (plE p)] [] (.agg (plE (zL p))) []:=by
 refine zc tok mix Tryz.func207 rfl rfl rfl ?_;refine zb.fresh _ _ (zmE p.pts hp) rfl (fun _ _=>rfl) (.inr (fun _ _=>rfl)) ?_;refine zb.give [2] 0 [.own 0] [(0,.arr 63 ptE 2 p.pts)] [] (.sl ptE (jL p.pts)) (zt7 p.pts hp) LEs.refl rfl rfl rfl ⟨⟨_,rfl,rfl,trivial⟩,trivial⟩ rfl trivial ?_;have hd:=zlh p.pts
 refine ⟨List Pt,fun q=>⟨[(1,.loc 0 0),(2,.loc 1 0),(3,.sl ptE q)],[(0,.box 186 [.sl ptE p.pts,pr (p.cl=true)]),(1,.box 186 [.val (.slice none 0 0),.val (.bool false)])],2,36,0⟩,
  fun q=>qi q=qi (jL p.pts)/\yC q/\q.length<=4096/\(¬p.cl=true->q=jL p.pts),fun q=>q.length,jL p.pts,?_,?_,?_⟩
 ·exact ⟨rfl,zdc _,oM,fun _=>rfl⟩
 ·exact zf [(0,some 0),(1,some 1)]
 rintro q ⟨t1,t2,t3,t4⟩
 refine Dr.k ?_;refine Br.mk (fun c=>?_) (fun c=>?_);rotate_left
 ·have c:¬p.cl=true:=c;exact zxb (by rw [zqJ c,t4 c])
 have c:p.cl=true:=c;have fin:qi q=q->LE (.agg [.sl ptE q,pr (p.cl=true)]) (.agg (plE (zL p))):=fun h=>zxb (by rw [zqI c,← t1,h])
 intro hl1;refine Br.mk (fun m=>?_) (fun m=>?_);rotate_left
 ·have m:¬(1:Int) < q.length:=m;exact fin (zoU oM)
 have m:(1:Int) < q.length:=m;intro hl2;refine Ar.o ?_;refine Ob.o ?_;intro z hz
 have hz:q[q.length - 1]? =some z:=by
  have hz:q[((q.length:Int) - 1).toNat]? =some z:=hz
  rwa [show ((q.length:Int) - 1).toNat=q.length - 1 by omega] at hz
 refine Ob.o ?_;intro f hf;have hf:q[0]? =some f:=hf;refine Br.mk (fun k=>?_) (fun k=>?_)
 ·have k:z=f:=qJ.1 k;have et:=zoT (show 1 < q.length by omega) hz hf k;intro hl4;refine Ar.o ?_;refine Ob.mk ⟨⟨dC,oM,oM,oM⟩,fun _ _=>rfl⟩ ?_;refine ⟨q.take (q.length - 1),⟨?_,?_,?_,fun h=>absurd c h⟩,z9 [(0,some 0),(1,some 1)] ⟨rfl,rfl,congrArg (fun q=>some (SV.sl ptE q)) (by rw [show ((q.length:Int) - 1 - 0).toNat=q.length - 1 by omega];rfl),trivial⟩ ⟨rfl,rfl,trivial⟩,?_⟩
  ·rw [← et,zt6 t2,t1]
  ·rw [← et];exact zjd t2
  ·rw [List.length_take];omega
  ·show (q.take (q.length - 1)).length < q.length;rw [List.length_take];omega
 ·have k:¬z=f:=fun h=>k (qJ.2 h)
  exact fin (zsg hz hf k)
theorem zAE(a b:Pt)(p:Pen):zd Tryz.prog 296 [.agg (ue p),.agg (ptE a),.agg (ptE b)] [] (.sl ptE (zbl a b p)) []:=by
 refine zc tok mix Tryz.func296 rfl rfl rfl ?_;refine Br.mk (fun h=>?_) (fun h=>?_)
 ·have h:p.c=5:=h;refine zb.t (p_cap a b p.w) ?_;exact qy (by unfold zbl;rw [if_pos h])
 have h:¬p.c=5:=h;refine Br.mk (fun k=>?_) (fun k=>?_)
 ·have k:p.c=3:=k;refine zb.t (zqr b p.w) ?_;exact qy (by unfold zbl;rw [if_neg h,if_pos k])
 have k:¬p.c=3:=k;have e:zbl a b p=[]:=by unfold zbl;rw [if_neg h,if_neg k]
 rw [e];exact zC
theorem zxc(a:Pt)(p:Pen):zd Tryz.prog 292 [.agg (ptE a),.agg (ue p)] [] (.sl ptE (zeJ a p)) []:=by
 refine zc tok mix Tryz.func292 rfl rfl rfl ?_;refine Br.mk (fun h=>?_) (fun h=>?_)
 ·have h:p.c=5:=h;refine zb.t (zBB a p.w) ?_;exact qy (by unfold zeJ;rw [if_pos h])
 have h:¬p.c=5:=h;refine Br.mk (fun k=>?_) (fun k=>?_)
 ·have k:p.c=3:=k;refine zb.t (zqr a p.w) ?_;exact qy (by unfold zeJ;rw [if_neg h,if_pos k])
 have k:¬p.c=3:=k;have e:zeJ a p=[]:=by unfold zeJ;rw [if_neg h,if_neg k]
 rw [e];exact zC
theorem uG{l:List Pt}{j:Nat}{x:Pt}(h:l[j]? =some x):x=nth l j:=by
 unfold nth;rw [List.getD_eq_getElem?_getD,h];rfl
theorem zqK(l:List Pt)(i:Int)(j:Nat)(hl:0 < l.length/\l.length<=4096)(hi: -1<=i/\i<=l.length)(hj:((i+l.length) % l.length).toNat=j):
  zd Tryz.prog 293 [i64 i,.ptr [.sl ptE l],.ptr [i64 (l.length:Int)]] [] (.agg (ptE (nth l j))) []:=by
 refine zc tok mix Tryz.func293 rfl rfl rfl ?_;have m1:=Int.emod_nonneg (i+l.length) (show (l.length:Int)≠0 by omega);have m2:=Int.emod_lt_of_pos (i+l.length) (show 0 < (l.length:Int) by omega);refine Dr.k ?_;refine Ar.o ?_;refine Dv.pos ⟨oM,oM⟩ ?_;refine Ob.mk ⟨m1,m2⟩ ?_;intro x hx;have hx:l[j]? =some x:=by rw [← hj];exact hx
 rw [uG hx];exact .refl
def u9(out rs:List (List Pt)):List (List Pt):=out++rs.filter fun r=>decide (0 < r.length)
theorem zoX(out:List (List Pt))(r:List Pt):u9 out [r]=out++qV r:=by
 unfold u9 qV
 cases r with
 | nil=>rfl
 | cons a b=>rfl
theorem zxd(out:List (List Pt))(r s:List Pt):u9 out [r,s]=out++qV r++qV s:=by
 unfold u9 qV
 cases r <;> cases s <;> simp
theorem zgC{out rs:List (List Pt)}{i:Nat}{x:List Pt}(h:rs[i]? =some x):u9 out (rs.take (i+1))=if 0 < x.length then u9 out (rs.take i)++[x] else u9 out (rs.take i):=by
 unfold u9;rw [List.take_add_one,h]
 by_cases c:0 < x.length
 ·rw [if_pos c];simp [c]
 ·rw [if_neg c];simp [c]
theorem zjl(out rs:List (List Pt)):(u9 out rs).length<=out.length+rs.length:=by
 unfold u9;rw [List.length_append];have:=List.length_filter_le (fun r:List Pt=>decide (0 < r.length)) rs;omega
theorem zxe{out rs:List (List Pt)}(h:∀r∈rs,0 < r.length):u9 out rs=out++rs:=by
 unfold u9;congr 1;exact List.filter_eq_self.2 fun r hr=>decide_eq_true (h r hr)
theorem zbC{r q:List Pt}(h:q∈qV r):0 < q.length:=by
 unfold qV at h
 split at h
 ·cases h
 ·rename_i k;rw [List.mem_singleton.1 h];exact Nat.pos_of_ne_zero fun e=>k (List.eq_nil_of_length_eq_zero e)
theorem zsj{a v b:Pt}{p:Pen}:∀r∈vd a v b p,0 < r.length:=by
 intro r hr;unfold vd at hr
 split at hr
 ·cases hr
 ·split at hr
  ·exact zbC hr
  ·split at hr
   ·cases hr
   ·exact zbC hr
theorem zBP(rs:List (List Pt))(hr:rs.length<=4):zd Tryz.prog 291 [.own 1,.loc 0 0] [(0,.box 56 [.val (.slice none 0 0)]),(1,.arr 87 zu 1 rs)] (.tup []) [(0,.box 56 [.own 2]),(2,.arr 87 zu 1 (u9 [] rs))]:=by
 refine zaE tok mix Tryz.func291 rfl rfl rfl ?_;intro hl1;refine ⟨Nat,fun i=>⟨[(1,.loc 0 0),(5,.own 1),(6,i64 (rs.length:Int)),(7,i64 (i:Int))],[(0,.box 56 [.own 2]),(2,.arr 87 zu 1 (u9 [] (rs.take i))),(1,.arr 87 zu 1 rs)],3,19,2⟩,fun i=>i<=rs.length,fun i=>rs.length - i,0,?_,?_,?_⟩
 ·exact Nat.zero_le _
 ·exact zf [(0,some 0),(1,some 1),(2,none)]
 rintro i hi
 have pl:=zjl ([]:List (List Pt)) (rs.take i);rw [List.length_take] at pl;refine Br.mk (fun g=>?_) (fun g=>?_)
 ·have g:(i:Int) < rs.length:=g;refine Ob.o ?_;refine Ob.o ?_;intro x hx;have hx:rs[i]? =some x:=hx;have e:=zgC (out:=([]:List (List Pt))) hx;intro hl3;refine Br.mk (fun k=>?_) (fun k=>?_)
  ·have k:(0:Int) < x.length:=k;rw [if_pos oM] at e;refine ⟨List Pt,zu,[x],rfl,Ob.o0 ?_⟩;refine ⟨[x],rfl,Ob.mk ⟨(by show _*(24:Int)<=_;simp only [List.length_cons,List.length_nil] at pl ⊢;omega),(by simp only [List.length_cons,List.length_nil] at pl ⊢;omega),dC,fun _ _=>rfl⟩ ?_⟩;refine Ar.o ?_;exact ⟨i+1,oM,zY [(0,some 0),(1,some 1),(2,some 4)] ⟨rfl,congrArg (fun q=>some (Mem.arr 87 zu 1 q)) e.symm,rfl,trivial⟩,by dsimp only;omega⟩
  ·have k:¬(0:Int) < x.length:=k;rw [if_neg oM] at e;refine Ar.o ?_;exact ⟨i+1,oM,zY [(0,some 0),(1,some 1),(2,some 2)] ⟨rfl,congrArg (fun q=>some (Mem.arr 87 zu 1 q)) e.symm,rfl,trivial⟩,by dsimp only;omega⟩
 ·have g:¬(i:Int) < rs.length:=g;exact ⟨⟨[],[(0,.box 56 [.own 2]),(2,.arr 87 zu 1 (u9 [] rs))],3,19,2⟩,zY [(0,some 0),(1,some 1),(2,some 2)] ⟨rfl,congrArg (fun q=>some (Mem.arr 87 zu 1 (u9 [] q))) (List.take_of_length_le oM),trivial⟩,rfl,.refl⟩
theorem zxf(out rs:List (List Pt))(ho:out.length<=100000)(hr:rs.length<=4):zd Tryz.prog 291 [.own 2,.loc 0 0] [(0,.box 56 [.own 1]),(1,.arr 87 zu 1 out),(2,.arr 87 zu 1 rs)] (.tup []) [(0,.box 56 [.own 3]),(3,.arr 87 zu 1 (u9 out rs))]:=by
 refine zaE tok mix Tryz.func291 rfl rfl rfl ?_;intro hl1;refine ⟨Nat,fun i=>⟨[(1,.loc 0 0),(5,.own 2),(6,i64 (rs.length:Int)),(7,i64 (i:Int))],[(0,.box 56 [.own 3]),(3,.arr 87 zu 1 (u9 out (rs.take i))),(2,.arr 87 zu 1 rs)],4,19,3⟩,fun i=>i<=rs.length,fun i=>rs.length - i,0,?_,?_,?_⟩
 ·exact Nat.zero_le _
 ·exact zY [(0,some 0),(1,some 1),(2,some 2),(3,some 1)] ⟨rfl,congrArg (fun q=>some (Mem.arr 87 zu 1 q)) (List.append_nil out).symm,rfl,trivial⟩
 rintro i hi
 have pl:=zjl out (rs.take i);rw [List.length_take] at pl;refine Br.mk (fun g=>?_) (fun g=>?_)
 ·have g:(i:Int) < rs.length:=g;refine Ob.o ?_;refine Ob.o ?_;intro x hx;have hx:rs[i]? =some x:=hx;have e:=zgC (out:=out) hx;intro hl3;refine Br.mk (fun k=>?_) (fun k=>?_)
  ·have k:(0:Int) < x.length:=k;rw [if_pos oM] at e;refine ⟨List Pt,zu,[x],rfl,Ob.o0 ?_⟩;refine ⟨[x],rfl,Ob.mk ⟨(by show _*(24:Int)<=_;simp only [List.length_cons,List.length_nil] at pl ⊢;omega),(by simp only [List.length_cons,List.length_nil] at pl ⊢;omega),dC,fun _ _=>rfl⟩ ?_⟩;refine Ar.o ?_;exact ⟨i+1,oM,zY [(0,some 0),(1,some 1),(2,some 2),(3,some 5)] ⟨rfl,congrArg (fun q=>some (Mem.arr 87 zu 1 q)) e.symm,rfl,trivial⟩,by dsimp only;omega⟩
  ·have k:¬(0:Int) < x.length:=k;rw [if_neg oM] at e;refine Ar.o ?_;exact ⟨i+1,oM,zY [(0,some 0),(1,some 1),(2,some 2),(3,some 3)] ⟨rfl,congrArg (fun q=>some (Mem.arr 87 zu 1 q)) e.symm,rfl,trivial⟩,by dsimp only;omega⟩
 ·have g:¬(i:Int) < rs.length:=g;exact ⟨⟨[],[(0,.box 56 [.own 3]),(3,.arr 87 zu 1 (u9 out rs))],4,19,3⟩,zY [(0,some 0),(1,some 1),(2,some 2),(3,some 3)] ⟨rfl,congrArg (fun q=>some (Mem.arr 87 zu 1 (u9 out q))) (List.take_of_length_le oM),trivial⟩,rfl,.refl⟩
theorem zBQ(out rs:List (List Pt))(ho:out.length<=100000)(hr:rs.length<=4):zd Tryz.prog 291 [.sl zu rs,.loc 0 0] [(0,.box 56 [.own 1]),(1,.arr 87 zu 1 out)] (.tup []) [(0,.box 56 [.own 2]),(2,.arr 87 zu 1 (u9 out rs))]:=by
 refine zaE tok mix Tryz.func291 rfl rfl rfl ?_;intro hl1;refine ⟨Nat,fun i=>⟨[(1,.loc 0 0),(5,.sl zu rs),(6,i64 (rs.length:Int)),(7,i64 (i:Int))],[(0,.box 56 [.own 2]),(2,.arr 87 zu 1 (u9 out (rs.take i)))],3,19,2⟩,fun i=>i<=rs.length,fun i=>rs.length - i,0,?_,?_,?_⟩
 ·exact Nat.zero_le _
 ·exact zY [(0,some 0),(1,some 1),(2,some 1)] ⟨rfl,congrArg (fun q=>some (Mem.arr 87 zu 1 q)) (List.append_nil out).symm,trivial⟩
 rintro i hi
 have pl:=zjl out (rs.take i);rw [List.length_take] at pl;refine Br.mk (fun g=>?_) (fun g=>?_)
 ·have g:(i:Int) < rs.length:=g;refine Ob.o ?_;intro x hx;have hx:rs[i]? =some x:=hx;have e:=zgC (out:=out) hx;intro hl3;refine Br.mk (fun k=>?_) (fun k=>?_)
  ·have k:(0:Int) < x.length:=k;rw [if_pos oM] at e;refine ⟨List Pt,zu,[x],rfl,Ob.o0 ?_⟩;refine ⟨[x],rfl,Ob.mk ⟨(by show _*(24:Int)<=_;simp only [List.length_cons,List.length_nil] at pl ⊢;omega),(by simp only [List.length_cons,List.length_nil] at pl ⊢;omega),dC,fun _ _=>rfl⟩ ?_⟩;refine Ar.o ?_;exact ⟨i+1,oM,zY [(0,some 0),(1,some 1),(2,some 4)] ⟨rfl,congrArg (fun q=>some (Mem.arr 87 zu 1 q)) e.symm,trivial⟩,by dsimp only;omega⟩
  ·have k:¬(0:Int) < x.length:=k;rw [if_neg oM] at e;refine Ar.o ?_;exact ⟨i+1,oM,zY [(0,some 0),(1,some 1),(2,some 2)] ⟨rfl,congrArg (fun q=>some (Mem.arr 87 zu 1 q)) e.symm,trivial⟩,by dsimp only;omega⟩
 ·have g:¬(i:Int) < rs.length:=g;exact ⟨⟨[],[(0,.box 56 [.own 2]),(2,.arr 87 zu 1 (u9 out rs))],3,19,2⟩,zY [(0,some 0),(1,some 1),(2,some 2)] ⟨rfl,congrArg (fun q=>some (Mem.arr 87 zu 1 (u9 out q))) (List.take_of_length_le oM),trivial⟩,rfl,.refl⟩
theorem zzr(p:Pt):zd Tryz.prog 260 [.agg (ptE p)] [] (pr (¬zn p)) []:=by
 refine zc tok mix Tryz.func260 rfl rfl rfl ?_;refine zb.t (kS p) ?_;exact zF Iff.rfl
theorem zxg(F:FuncId)(hF:∀p,zd Tryz.prog F [.agg (ptE p)] [] (pr (¬zn p)) [])(xs:List Pt):zd Tryz.prog 174 [.sl ptE xs,.fn F []] [] (i64 (zhd xs)) []:=by
 refine zc tok mix Tryz.func174 rfl rfl rfl ?_;intro hl0;refine ⟨Int,fun i=>⟨[(8,i64 i),(7,i64 xs.length),(0,.sl ptE xs),(1,.fn F [])],[],0,19,0⟩,fun i=>0<=i/\i<=xs.length/\∀(j:Nat) q,(j:Int) < i->xs[j]? =some q->zn q,fun i=>((xs.length:Int) - i).toNat,0,?_,?_,?_⟩
 ·exact ⟨oM,oM,fun j q hj=>by omega⟩
 ·exact zf []
 rintro i ⟨h1,h2,h3⟩
 refine Br.mk (fun h4=>?_) (fun h4=>?_)
 ·refine Ob.o ?_;intro x hx;refine zb.t (hF x) ?_;refine Br.mk (fun h5=>?_) (fun h5=>?_)
  ·refine zj ?_;rw [zor (i:=i.toNat) (fun j q hj=>h3 j q oM) hx h5];omega
  ·refine Ar.o ?_;refine ⟨i+1,⟨oM,oM,fun j q hj hq=>?_⟩,zf [],by dsimp only;omega⟩
   by_cases e:j=i.toNat
   ·subst e;rw [hx] at hq;cases hq;exact Decidable.not_not.1 h5
   ·exact h3 j q oM hq
 ·refine zj (zeK fun p hp=>?_).symm;obtain ⟨j,hj,he⟩:=List.getElem_of_mem hp;exact h3 j p oM (by rw [← he];exact List.getElem?_eq_getElem hj)
theorem zoY(F:FuncId)(hF:∀p,zd Tryz.prog F [.agg (ptE p)] [] (pr (¬zn p)) [])(xs:List Pt):zd Tryz.prog 128 [.sl ptE xs,.fn F []] [] (pr (¬∀p∈xs,zn p)) []:=by
 refine zc tok mix Tryz.func128 rfl rfl rfl ?_;refine zb.t (zxg F hF xs) ?_;exact zF zfD
def zaS(rs:List (List Pt)):Prop:=∀r∈rs,∀p∈r,zn p
instance (rs:List (List Pt)):Decidable (zaS rs):=inferInstanceAs (Decidable (∀_∈_,_))
def ptsE(rs:List (List Pt)):SV:=.tup [i64 (if zaS rs then (qh rs:Int) else 0),pr (zaS rs)]
theorem zjm(rs:List (List Pt))(hs:(qh rs:Int)<=4611686018427387904):zd Tryz.prog 211 [.sl zu rs] [] (ptsE rs) []:=by
 refine zc tok mix Tryz.func211 rfl rfl rfl ?_;intro hl1;refine ⟨Nat,fun i=>⟨[(4,i64 (qh (rs.take i):Int)),(7,.sl zu rs),(8,i64 (rs.length:Int)),(9,i64 (i:Int))],[],0,21,0⟩,fun i=>i<=rs.length/\zaS (rs.take i),fun i=>rs.length - i,0,?_,?_,?_⟩
 ·exact ⟨Nat.zero_le _,fun r hr=>by cases hr⟩
 ·exact zf []
 rintro i ⟨h1,h2⟩
 refine Br.mk (fun g=>?_) (fun g=>?_)
 ·have g:(i:Int) < rs.length:=g;refine Ob.o ?_;intro x hx;have hx:rs[i]? =some x:=hx;refine zb.t (zoY 260 zzr x) ?_;refine Br.mk (fun k=>?_) (fun k=>?_)
  ·have k:¬zaS rs:=fun h=>k (h x (List.mem_of_getElem? hx))
   refine zU (zj (by rw [if_neg k])) (ze k)
  ·have k:∀p∈x,zn p:=Decidable.not_not.1 k;intro hl4;have c1:=zam hx;have c2:=zd3 rs (i+1);(iterate 2 refine Ar.o ?_);refine ⟨i+1,⟨oM,zeL hx h2 k⟩,z9 [] ⟨congrArg (fun n=>some (i64 n)) oM,rfl,rfl,rfl,trivial⟩ trivial,by dsimp only;omega⟩
 ·have g:¬(i:Int) < rs.length:=g;rw [List.take_of_length_le oM] at h2;have e:qh (rs.take i)=qh rs:=by rw [List.take_of_length_le oM]
  exact zU (zj (by rw [if_pos h2,e])) (zP h2)
theorem vQ(r:List Pt):(qV r).length<=1:=by unfold qV;split <;> simp
def zmQ(l:List Pt)(w:Int)(n:Nat):List (List Pt):=(List.range n).flatMap fun i=>qV (uN (nth l i) (nth l (i+1)) w)
theorem zli(l:List Pt)(w:Int)(n:Nat):zmQ l w (n+1)=zmQ l w n++qV (uN (nth l n) (nth l (n+1)) w):=by
 unfold zmQ;rw [List.range_succ,List.flatMap_append,List.flatMap_singleton]
theorem zxh(l:List Pt)(w:Int)(n:Nat):(zmQ l w n).length<=n:=by
 induction n with
 | zero=>exact Nat.le_refl 0
 | succ n ih=>
  rw [zli,List.length_append];have:=vQ (uN (nth l n) (nth l (n+1)) w);omega
theorem zbD(p:Pl)(pen:Pen):jZ p pen=zmQ p.pts pen.w (p.pts.length - 1)++
  (if p.cl=true/\1 < p.pts.length then qV (uN (nth p.pts (p.pts.length - 1)) (nth p.pts 0) pen.w) else []):=rfl
theorem zjn(p:Pl)(pen:Pen):(jZ p pen).length<=p.pts.length+1:=by
 rw [zbD,List.length_append];have h1:=zxh p.pts pen.w (p.pts.length - 1);have h2:=vQ (uN (nth p.pts (p.pts.length - 1)) (nth p.pts 0) pen.w)
 split
 ·omega
 ·rw [List.length_nil];omega
def zhj(p:Pl)(pen:Pen)(i:Nat):List (List Pt):=if ¬p.cl=true/\(i=0∨i=p.pts.length - 1) then []
  else vd (nth p.pts ((i+p.pts.length - 1) % p.pts.length)) (nth p.pts i) (nth p.pts ((i+1) % p.pts.length)) pen
def vf(p:Pl)(pen:Pen)(n:Nat):List (List Pt):=(List.range n).flatMap (zhj p pen)
theorem zjo(p:Pl)(pen:Pen)(n:Nat):vf p pen (n+1)=vf p pen n++zhj p pen n:=by
 unfold vf;rw [List.range_succ,List.flatMap_append,List.flatMap_singleton]
theorem zdm(p:Pl)(pen:Pen):zi8 p pen=if p.pts.length<=1 then [] else vf p pen p.pts.length:=rfl
theorem zlj(a v b:Pt)(p:Pen):(vd a v b p).length<=1:=by
 unfold vd
 split
 ·decide
 ·split
  ·exact vQ _
  ·split
   ·decide
   ·exact vQ _
theorem zt8(p:Pl)(pen:Pen)(i:Nat):(zhj p pen i).length<=1:=by
 unfold zhj
 split
 ·decide
 ·exact zlj ..
theorem zlk(p:Pl)(pen:Pen)(n:Nat):(vf p pen n).length<=n:=by
 induction n with
 | zero=>exact Nat.le_refl 0
 | succ n ih=>
  rw [zjo,List.length_append];have:=zt8 p pen n;omega
theorem zt9(p:Pl)(pen:Pen):(zi8 p pen).length<=p.pts.length:=by
 rw [zdm]
 split
 ·exact Nat.zero_le _
 ·exact zlk ..
end Go.Gs
