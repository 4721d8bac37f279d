/- Points of a node and of the page, both texts. -/
import Derived.Test.YtcjnhffjmonbeaaGreatDoorMA
import Derived.Test.YtcjnhffjmonbeaaGreatDoorMBN
import Derived.Test.YtcjnhffjmonbeaaGreatDoorMBI
import Derived.Test.YtcjnhffjmonbeaaGreatDoorMBA
import Derived.Test.YtcjnhffjmonbeaaGreatDoorMAZ
import Derived.Test.YtcjnhffjmonbeaaGreatDoorMBL
import Derived.Test.YtcjnhffjmonbeaaGreatDoorMAY
import Derived.Test.YtcjnhffjmonbeaaGreatDoorMBB
set_option maxRecDepth 100000
set_option maxHeartbeats 8000000
set_option linter.all false
namespace Go.Gs
open Go.Proofs
theorem ztJ(a b:BI)(ha:a.mag.length<=100000000):ze Tryz.prog 48 [.agg (biE a),.agg (biE b)] [] (pr (a=b)) []:=by
 refine zd tok mix Tryz.func48 rfl rfl rfl ?_;refine Br.mk (fun h1=>zc fun e=>h1 (by rw [e])) (fun h1=>?_);have h1:=Decidable.not_not.1 h1;intro hl1 hl2;refine Br.mk (fun h2=>zc fun e=>h2 (by rw [e])) (fun h2=>?_);have h2:=Decidable.not_not.1 h2;refine ⟨Nat,fun i=>⟨[(5,i64 i),(3,.loc 1 0),(2,.loc 0 0)],[(1,.box 31 (biE b)),(0,.box 31 (biE a))],2,38,0⟩,fun i=>i<=a.mag.length/\∀j,j < i->a.mag[j]? =b.mag[j]?,fun i=>a.mag.length - i,0,⟨Nat.zero_le _,fun j h=>by omega⟩,?_,?_⟩
 ·exact zi [(0,some 0),(1,some 1)]
 rintro i ⟨hi,hs⟩
 intro hl3;refine Br.mk (fun h3=>?_) (fun h3=>zH (zuz h1 oM oM hs));refine Dr.k ?_;refine Ob.o ?_;intro x hx;have hx:a.mag[i]? =some x:=hx;refine Ob.o ?_;intro y hy;have hy:b.mag[i]? =some y:=hy;refine Br.mk (fun h4=>zc fun e=>?_) (fun h4=>?_)
 ·subst e;rw [hx] at hy;cases hy;exact h4 rfl
 ·have h4:=Decidable.not_not.1 h4;have exy:x=y:=Fin.ext oM;refine Ar.o ?_;refine ⟨i+1,⟨oM,fun j hj=>?_⟩,zi [(0,some 0),(1,some 1)],by dsimp only;omega⟩
  by_cases e:j=i
  ·subst e;rw [hx,hy,exy]
  ·exact hs j oM
theorem ztX(a b:BR)(ha:a.len<=100000000):ze Tryz.prog 19 [.agg (brE a),.agg (brE b)] [] (pr (a=b)) []:=by
 have h1:a.num.mag.length<=a.len:=Nat.le_max_left _ _;have h2:a.den.mag.length<=a.len:=Nat.le_max_right _ _;refine zd tok mix Tryz.func19 rfl rfl rfl ?_;refine zb.t (ztJ a.num b.num oM) ?_;refine Br.mk (fun h=>?_) (fun h=>zc fun e=>h (by rw [e]));refine zb.t (ztJ a.den b.den oM) ?_;exact zu ⟨fun k=>by cases a;cases b;simp only [BR.mk.injEq];exact ⟨h,k⟩,fun k=>by rw [k]⟩
theorem zfT{k:Nat}(h0:k≠0)(h:k < 4294967296):zj k=[⟨k,h⟩]:=by
 rw [zaE h0,show k / 4294967296=0 by omega,kV];congr 1;exact Fin.ext (Nat.mod_eq_of_lt h)
theorem zmi(n:Int):ofQ (n:Rat)=⟨ofZ n,ofZ 1⟩:=by unfold ofQ;rw [Rat.num_intCast,Rat.den_intCast];rfl
theorem uI{n:Int}(h:R64 n):(ofQ (n:Rat)).len<=3:=by
 have h1:=ye h;have h2:=ye (n:=1) dC;rw [zmi];show max (ofZ n).mag.length (ofZ 1).mag.length<=3;rw [zB,zB];omega
theorem zmj(n:Int)(h: -1048576<=n/\n<=1048576):ze Tryz.prog 45 [i64 n] [] (.agg (brE (ofQ (n:Rat)))) []:=by
 have e1:zj 1=[⟨1,dC⟩]:=zfT dC dC;rw [zmi];refine zd tok mix Tryz.func45 rfl rfl rfl ?_;refine ⟨Dig,dgE,[⟨1,dC⟩],rfl,Ob.o11 ?_⟩;have hone:LEs [bl false,.sl dgE [(⟨1,dC⟩:Dig)]] (biE (ofZ 1)):=.cons (zc dC) (.cons (yb (show _=zj 1 from e1.symm)) .nil);refine Br.mk (fun h0=>?_) (fun h0=>?_)
 ·have h0:¬n=0:=h0;refine Ar.o ?_;have hm:max n (-n)=(n.natAbs:Int):=oM;refine Ar.fit (show 0<=max n (-n)/\max n (-n)<=4294967295 by omega) ?_;have hk:n.natAbs < 4294967296:=oM;refine ⟨Dig,dgE,[⟨n.natAbs,hk⟩],congrArg (fun q=>[u32 q]) hm.symm,Ob.o11 ?_⟩;exact zuI (.cons (zu (by show n < 0↔decide (n < 0)=true;simp)) (.cons (yb (show _=zj n.natAbs from (zfT oM hk).symm)) hone))
 ·have h0:n=0:=Decidable.not_not.1 h0;subst h0;exact zuI (.cons (zc dC) (.cons (by rw [show (ofZ 0).mag=[] from kV];exact zI) hone))
def zp7(s:Sc)(i:Int)(p:Pt):Pt×Int:=if (zF s i).2≠0 then (zp,(zF s i).2) else qB (zF s i).1 p
def zud(s:Sc)(i:Int)(p:Pt):SV:=.tup [.agg (ptE (zp7 s i p).1),i64 (zp7 s i p).2]
theorem zuo(s:Sc)(i:Int)(p:Pt)(ht:jq s):ze Tryz.prog 15 [.agg (scE s),i64 i,.agg (ptE p)] [] (zud s i p) []:=by
 refine zd tok mix Tryz.func15 rfl rfl rfl ?_;refine zb.t (zeg s i ht) ?_;refine Br.mk (fun h=>by rw [zud,show zp7 s i p=(zp,(zF s i).2) from if_pos h];exact zS .refl .refl) (fun h=>?_);refine zb.t (zcL (zF s i).1 p ((jL s i).up dC)) ?_;rw [zud,show zp7 s i p=qB (zF s i).1 p from if_neg h];exact zS .refl .refl
theorem h_ntp(s:Sc)(i:Int)(p:Pt)(ht:jq s):ze Tryz.prog 16 [.agg (scE s),i64 i,.agg (ptE p)] [] (zud s i p) []:=by
 refine zd tok mix Tryz.func16 rfl rfl rfl ?_;refine zb.t (zrx s i ht) ?_;refine Br.mk (fun h=>by rw [zud,show zp7 s i p=(zp,(zF s i).2) from if_pos h];exact zS .refl .refl) (fun h=>?_);refine zb.t (ztE (zF s i).1 p ((jL s i).up dC)) ?_;rw [zud,show zp7 s i p=qB (zF s i).1 p from if_neg h];exact zS .refl .refl
theorem ztl{t:AF}(ht:t.le 100):(zdp t).1.le 10200:=by
 unfold zdp
 split
 ·exact qL _
 split
 ·exact qL _
 split
 ·exact qL _
 ·rename_i h _;exact (zl5 ht dC h).up dC
def zdX(s:Sc)(i:Int)(p:Pt):(BR×BR)×Int:=if (zF s i).2≠0 then ((zBR,zBR),(zF s i).2) else if ¬zP p then ((zBR,zBR),6) else if (zdp (zF s i).1).2≠0 then ((zBR,zBR),(zdp (zF s i).1).2)
 else ((ofQ (yY (zdp (zF s i).1).1 (p.x:Rat) (p.y:Rat)),ofQ (yZ (zdp (zF s i).1).1 (p.x:Rat) (p.y:Rat))),0)
def zp8(s:Sc)(i:Int)(p:Pt):SV:=.tup [.agg (brE (zdX s i p).1.1),.agg (brE (zdX s i p).1.2),i64 (zdX s i p).2]
theorem zsd:LE (.agg z4) (.agg (brE zBR)):=zuI qh
theorem zih{s:Sc}{i:Int}{p:Pt}{e:Int}(h:zdX s i p=((zBR,zBR),e)):LE (.tup [.agg z4,.agg z4,i64 e]) (zp8 s i p):=by
 unfold zp8;rw [h];exact zaC (.cons zsd (.cons zsd (.cons .refl .nil)))
theorem ptXb{p:Pt}(h:zP p): -1048576<=p.x/\p.x<=1048576:=by unfold zP at h;omega
theorem ptYb{p:Pt}(h:zP p): -1048576<=p.y/\p.y<=1048576:=by unfold zP at h;omega
theorem ptX{p:Pt}(h:zP p):R64 p.x:=by have:=ptXb h;omega
theorem ptY{p:Pt}(h:zP p):R64 p.y:=by have:=ptYb h;omega
theorem zup(s:Sc)(i:Int)(p:Pt)(ht:jq s):ze Tryz.prog 17 [.agg (scE s),i64 i,.agg (ptE p)] [] (zp8 s i p) []:=by
 refine zd tok mix Tryz.func17 rfl rfl rfl ?_;refine zb.t (zeg s i ht) ?_;refine Br.mk (fun h=>zih (if_pos h)) (fun h1=>?_);refine zb.t (jG p) ?_;refine Br.mk (fun h=>zih ((if_neg h1).trans (if_pos h))) (fun h2=>?_);have hp:zP p:=Decidable.not_not.1 h2;refine zb.t (zpH (zF s i).1 (jL s i)) ?_;refine Br.mk (fun h=>zih ((if_neg h1).trans ((if_neg h2).trans (if_pos h)))) (fun h3=>?_);have hx:R64 p.x:=ptX hp;have hy:R64 p.y:=ptY hp;have il:=ztl (jL s i);refine Dr.k ?_;refine zb.t (zmj p.x (ptXb hp)) ?_;refine zb.t (zmj p.y (ptYb hp)) ?_
 refine zb.t (zd9 (zdp (zF s i).1).1 (ofQ (p.x:Rat)) (ofQ (p.y:Rat)) (il.up dC) (by have:=uI hx;omega) (by have:=uI hy;omega)) ?_;rw [zN,zN];refine Dr.d ?_;refine Ob.mk (by kernel_rfl) ?_;rw [zp8,show zdX s i p=_ from (if_neg h1).trans ((if_neg h2).trans (if_neg h3))];exact zaC (.cons .refl (.cons .refl (.cons .refl .nil)))
theorem ztm(s:Sc)(i:Int)(p:Pt)(ht:jq s):ze Tryz.prog 17 [.agg (scO s 0),i64 i,.agg (ptE p)] [(0,jM s.ns)] (zp8 s i p) [(0,jM s.ns)]:=by
 refine uc tok mix Tryz.func17 rfl rfl rfl (fun _ _=>rfl) rfl ?_;refine zb.give [0] 0 [.agg (scO s 0),i64 i] [(0,jM s.ns)] [(0,jM s.ns)] (zjY (zF s i)) (zc2 s i ht) LEs.refl rfl rfl rfl ⟨⟨_,rfl,rfl,trivial⟩,trivial⟩ rfl ⟨⟨rfl,trivial⟩,trivial⟩ ?_;refine Br.mk (fun h=>⟨rfl,zih (if_pos h)⟩) (fun h1=>?_);refine zb.t (jG p) ?_;refine Br.mk (fun h=>⟨rfl,zih ((if_neg h1).trans (if_pos h))⟩) (fun h2=>?_);have hp:zP p:=Decidable.not_not.1 h2;refine zb.t (zpH (zF s i).1 (jL s i)) ?_
 refine Br.mk (fun h=>⟨rfl,zih ((if_neg h1).trans ((if_neg h2).trans (if_pos h)))⟩) (fun h3=>?_);have hx:R64 p.x:=ptX hp;have hy:R64 p.y:=ptY hp;have il:=ztl (jL s i);refine Dr.k ?_;refine zb.t (zmj p.x (ptXb hp)) ?_;refine zb.t (zmj p.y (ptYb hp)) ?_;refine zb.t (zd9 (zdp (zF s i).1).1 (ofQ (p.x:Rat)) (ofQ (p.y:Rat)) (il.up dC) (by have:=uI hx;omega) (by have:=uI hy;omega)) ?_;rw [zN,zN];refine Dr.d ?_;refine Ob.mk (by kernel_rfl) ?_;rw [zp8,show zdX s i p=_ from (if_neg h1).trans ((if_neg h2).trans (if_neg h3))]
 exact ⟨rfl,zaC (.cons .refl (.cons .refl (.cons .refl .nil)))⟩
theorem h_ptn(s:Sc)(i:Int)(p:Pt)(ht:jq s):ze Tryz.prog 18 [.agg (scE s),i64 i,.agg (ptE p)] [] (zp8 s i p) []:=by
 refine zd tok mix Tryz.func18 rfl rfl rfl ?_;refine zb.t (zrx s i ht) ?_;refine Br.mk (fun h1=>?_) (fun h1=>?_)
 ·have h1':¬(zF s i).2≠0:=fun k=>k h1
  refine zb.t (yy p) ?_;refine Br.mk (fun h=>?_) (fun h2=>?_)
  ·exact Br.mk (fun _=>zih ((if_neg h1').trans (if_pos h))) (fun k=>absurd dC k)
  have hp:zP p:=Decidable.not_not.1 h2;refine Br.mk (fun h=>absurd h1 h) (fun _=>?_);refine zb.t (zt2 (zF s i).1 (jL s i)) ?_;refine Br.mk (fun h=>zih ((if_neg h1').trans ((if_neg h2).trans (if_pos h)))) (fun h3=>?_);have hx:R64 p.x:=ptX hp;have hy:R64 p.y:=ptY hp;have il:=ztl (jL s i);refine Dr.k ?_;refine zb.t (qg p.x hx) ?_;refine zb.t (qg p.y hy) ?_;refine zb.t (ztD (zdp (zF s i).1).1 (ofQ (p.x:Rat)) (ofQ (p.y:Rat)) (il.up dC) (by have:=uI hx;omega) (by have:=uI hy;omega)) ?_;rw [zN,zN];refine Dr.d ?_;refine Ob.mk (by kernel_rfl) ?_
  rw [zp8,show zdX s i p=_ from (if_neg h1').trans ((if_neg h2).trans (if_neg h3))];exact zaC (.cons .refl (.cons .refl (.cons .refl .nil)))
 ·refine Br.mk (fun h=>zih (if_pos h1)) (fun h=>absurd h (fun k=>k h1))
theorem zrB(xs:List Pt):zdv (.arr 46 ptE 2 xs):=fun _ _=>rfl
theorem zrC(n:Int)(h0:0<=n)(h1:n<=4096):ze Tryz.prog 157 [.val (.slice none 0 0),i64 n] [] (.own 0) [(0,.arr 46 ptE 2 [])]:=by
 refine kU tok mix Tryz.func157 rfl rfl rfl ?_;refine Br.mk (fun h=>absurd h oM) (fun _=>?_);refine Ar.fit dC ?_;refine Ar.o ?_;refine Br.mk (fun h=>?_) (fun h=>?_)
 ·refine Ob.mk ⟨rfl,rfl,rfl⟩ ?_;refine ⟨Pt,ptE,zp,rfl,Ob.mk ⟨dC,h,(by show _*(16:Int)<=_;omega),oM⟩ ?_⟩;refine Sl.keep (Ob.mk ⟨rfl,Int.le_refl _,oM⟩ ?_);exact ⟨some 1,.own _ rfl,rfl,fun _ _=>rfl⟩
 ·exact ⟨none,.nil rfl,rfl⟩
theorem znw{rs:List (List Pt)}{i:Nat}{x:List Pt}(h:rs[i]? =some x):(rs.take (i+1)).flatten=(rs.take i).flatten++x:=by
 rw [List.take_add_one,h];simp
theorem zj0(rs:List (List Pt)):rs.flatten.length=u7 rs:=by unfold u7;rw [List.length_flatten]
theorem znx(rs:List (List Pt))(hl:rs.length<=4096)(hc:u7 rs<=4096):ze Tryz.prog 107 [.sl qu rs] [] (.own 0) [(0,.arr 46 ptE 2 rs.flatten)]:=by
 refine kU tok mix Tryz.func107 rfl rfl rfl ?_;intro hl0;refine ⟨Nat,fun i=>⟨[(11,i64 (i:Int)),(10,i64 (rs.length:Int)),(9,.sl qu rs),(3,i64 (u7 (rs.take i):Int)),(0,.sl qu rs)],[],0,36,0⟩,fun i=>i<=rs.length,fun i=>rs.length - i,0,Nat.zero_le _,zi [],?_⟩;intro i hi;have hi:i<=rs.length:=hi;refine Br.mk (fun g=>?_) (fun g=>?_)
 ·have g:(i:Int) < rs.length:=g;refine Ob.o ?_;intro x hx;have hx:rs[i]? =some x:=hx;have e:=zbu hx;have:=zeb rs (i+1);intro hl1;refine Ar.o ?_;refine Br.mk (fun h=>absurd h oM) (fun _=>?_);refine Ar.o ?_;exact ⟨i+1,by show i+1<=_;omega,kr [] ⟨rfl,rfl,rfl,congrArg (fun n=>some (i64 n)) (by rw [e];omega),rfl,trivial⟩ trivial,by dsimp only;omega⟩
 ·have g:¬(i:Int) < rs.length:=g;have et:rs.take i=rs:=List.take_of_length_le oM;refine zb.fresh _ _ (zrC (u7 (rs.take i):Int) oM (by rw [et];omega)) rfl (zrB _) (.inl rfl) ?_;intro hl2;refine ⟨Nat,fun i=>⟨[(27,i64 (i:Int)),(26,i64 (rs.length:Int)),(25,.sl qu rs),(6,.own 0)],[(0,.arr 46 ptE 2 (rs.take i).flatten)],1,36,0⟩,fun i=>i<=rs.length,fun i=>rs.length - i,0,Nat.zero_le _,zi [(0,some 0)],?_⟩;intro j hj;have hj:j<=rs.length:=hj;refine Br.mk (fun g=>?_) (fun g=>?_)
  ·have g:(j:Int) < rs.length:=g;refine Ob.o ?_;intro x hx;have hx:rs[j]? =some x:=hx;have e:=zbu hx;have k1:=zeb rs (j+1);have k2:=zj0 (rs.take j);refine ⟨x,rfl,Ob.mk ⟨(by show ((rs.take j).flatten.length+x.length:Int)*(16:Int)<=_;omega),oM,dC,fun _ _=>rfl⟩ ?_⟩;refine Ar.o ?_;exact ⟨j+1,by show j+1<=_;omega,k9 [(0,some 1)] ⟨congrArg (fun q=>some (Mem.arr 46 ptE 2 q)) (znw hx).symm,trivial⟩,by dsimp only;omega⟩
  ·have g:¬(j:Int) < rs.length:=g;exact ⟨some 0,.own _ rfl,congrArg (fun q=>some (Mem.arr 46 ptE 2 q)) (by rw [List.take_of_length_le (show rs.length<=j by omega)]),fun _ _=>rfl⟩
def zfU(rs:List (List Pt)):Prop:=rs.flatten≠[]/\zcI rs
instance (rs:List (List Pt)):Decidable (zfU rs):=inferInstanceAs (Decidable (_/\_))
def loR(rs:List (List Pt)):Pt:=if zfU rs then bnd mnP rs.flatten else zp
def hiR(rs:List (List Pt)):Pt:=if zfU rs then bnd mxP rs.flatten else zp
def pbE(rs:List (List Pt)):SV:=.tup [.agg (ptE (loR rs)),.agg (ptE (hiR rs)),pr (zfU rs)]
theorem zp9{rs:List (List Pt)}(h:¬zfU rs):LE (.tup [.agg [i64 0,i64 0],.agg [i64 0,i64 0],bl false]) (pbE rs):=by
 unfold pbE loR hiR;rw [if_neg h,if_neg h];exact zaC (.cons .refl (.cons .refl (.cons (zc h) .nil)))
theorem ztn(rs:List (List Pt))(hl:rs.length<=4096)(hc:u7 rs<=4096):ze Tryz.prog 58 [.sl qu rs] [] (pbE rs) []:=by
 refine zd tok mix Tryz.func58 rfl rfl rfl ?_;refine zb.t ((znx rs hl hc).plain rfl) ?_;generalize hq:rs.flatten=q;have hql:q.length<=4096:=by rw [← hq,zj0];exact hc
 intro hl0;refine Br.mk (fun h=>zp9 fun k=>k.1 (by rw [hq];exact List.eq_nil_of_length_eq_zero oM)) (fun h1=>?_);refine zb.t (zo0 rs fun r hr=>?_) ?_
 ·obtain ⟨j,hj,e⟩:=List.getElem_of_mem hr;have k1:=zbu (rs:=rs) (i:=j) (List.getElem?_eq_getElem hj);have k2:=zeb rs (j+1);rw [e] at k1;omega
 refine Br.mk (fun h=>zp9 fun k=>h k.2) (fun h2=>?_);have h2:zcI rs:=Decidable.not_not.1 h2;have hne:q≠[]:=fun k=>h1 (by rw [k];rfl)
 have hs:zfU rs:=⟨by rw [hq];exact hne,h2⟩
 obtain ⟨p0,t0,hq0⟩:∃p t,q=p::t:=by
  cases q with
  | nil=>exact absurd rfl hne
  | cons p t=>exact ⟨p,t,rfl⟩
 have hp0:q[0]? =some p0:=by rw [hq0];rfl
 refine Dr.d ?_;refine Ob.o ?_;intro x hx;have hx:x=p0:=Option.some.inj ((show q[0]? =some x from hx).symm.trans hp0);rw [hx];refine Ob.o ?_;intro y hy;have hy:y=p0:=Option.some.inj ((show q[0]? =some y from hy).symm.trans hp0);rw [hy];refine Ob.mk (by kernel_rfl) ?_;intro hl1
 refine ⟨Nat,fun i=>⟨[(30,i64 (i:Int)),(29,i64 (q.length:Int)),(28,.sl ptE q),(7,.loc 3 0),(6,.loc 2 0),(3,.loc 1 0),(2,.loc 0 0)],
  [(3,.box 46 (ptE ((q.take i).foldl mxP p0))),(2,.box 46 (ptE ((q.take i).foldl mnP p0))),(1,.box 46 (ptE zp)),(0,.box 46 (ptE zp))],4,59,0⟩,
  fun i=>i<=q.length,fun i=>q.length - i,0,Nat.zero_le _,?_,?_⟩
 ·exact zi [(0,some 0),(1,some 1),(2,some 2),(3,some 3)]
 intro i hi;have hi:i<=q.length:=hi;refine Br.mk (fun g=>?_) (fun g=>?_)
 ·have g:(i:Int) < q.length:=g;refine Ob.o ?_;intro z hz;have hz:q[i]? =some z:=hz;have e:∀f:Pt->Pt->Pt,(q.take (i+1)).foldl f p0=f ((q.take i).foldl f p0) z:=fun f=>by rw [List.take_add_one,hz,List.foldl_append];rfl
  refine Ar.o ?_
  exact ⟨i+1,by show i+1<=_;omega,yU [(0,some 0),(1,some 1),(2,some 2),(3,some 3)] rfl rfl rfl ⟨rfl,rfl,rfl,rfl,rfl,rfl,rfl,trivial⟩
   ⟨congrArg (fun p=>some (Mem.box 46 (ptE p))) (e mxP).symm,congrArg (fun p=>some (Mem.box 46 (ptE p))) (e mnP).symm,rfl,rfl,trivial⟩,by dsimp only;omega⟩
 ·have g:¬(i:Int) < q.length:=g;have et:q.take i=q:=List.take_of_length_le oM;refine Dr.d ?_;refine Ob.mk (by kernel_rfl) ?_
  have eb:∀f:Pt->Pt->Pt,(q.take i).foldl f p0=bnd f rs.flatten:=fun f=>by
   rw [et,hq];unfold bnd;rw [hq0];rfl
  rw [eb,eb];unfold pbE loR hiR;rw [if_pos hs,if_pos hs];exact zaC (.cons .refl (.cons .refl (.cons (zH hs) .nil)))
def za5(st:Option (Pt×Pt))(rs:List (List Pt)):Option (Pt×Pt):=if ¬zfU rs then st else match st with
 | none=>some (mnP (loR rs) (loR rs),mxP (hiR rs) (hiR rs))
 | some (a,b)=>some (mnP a (loR rs),mxP b (hiR rs))
def zqa(l:List (List (List Pt))):Option (Pt×Pt):=l.foldl za5 none
def oLo(st:Option (Pt×Pt)):Pt:=match st with | none=>zp | some (a,_)=>a
def oHi(st:Option (Pt×Pt)):Pt:=match st with | none=>zp | some (_,b)=>b
def zse(st:Option (Pt×Pt))(u v:Int):Pt:=match st with
 | none=>zp
 | some (a,b)=>⟨(zfi a b u 256).x,(zfi a b v 256).y⟩
def u9(s:Sc)(i:Int):List (List (List Pt)):=[yP s i,zma s i,imgG s i]
def ancE(s:Sc)(i u v:Int):SV:=.tup [.agg (ptE (zse (zqa (u9 s i)) u v)),pr ((zqa (u9 s i)).isSome=true)]
def zqb(l:List (List Pt)):List SV:=[.sl qu l]
theorem zny (s:Sc) (i u v:Int) (ht:jq s) (hS:ze Tryz.prog 27 [.agg (scE s),i64 i] [] (.sl qu (zma s i)) [])
  (hz:∀l∈u9 s i,l.length<=4096/\u7 l<=4096):ze Tryz.prog 26 [.agg (scE s),i64 i,i64 u,i64 v] [] (ancE s i u v) []:=by
 refine zd tok mix Tryz.func26 rfl rfl rfl ?_;refine Dr.d ?_;refine zb.t (zrz s i ht) ?_;refine zb.t hS ?_;refine zb.t (ztk s i ht) ?_;refine ⟨List (List Pt),zqb,u9 s i,rfl,Ob.o0 ?_⟩;intro hl0;refine Ob.mk (by kernel_rfl) ?_;have hl3:(u9 s i).length=3:=rfl;generalize hL:u9 s i=L at hz hl3 ⊢
 refine ⟨Nat×Option (Pt×Pt),fun q=>⟨[(29,i64 (q.1:Int)),(28,i64 (L.length:Int)),(27,.own 4),(12,pr (q.2.isSome=true)),(11,.loc 3 0),(10,.loc 2 0),(8,.loc 1 0),(4,.loc 0 0),(3,i64 v),(2,i64 u)],
  [(4,.arr 41 zqb 1 L),(3,.box 46 (ptE (oHi q.2))),(2,.box 46 (ptE (oLo q.2))),(1,.box 46 (ptE zp)),(0,.box 26 (scE s))],5,82,0⟩,
  fun q=>q.1<=L.length/\q.2=(L.take q.1).foldl za5 none,fun q=>L.length - q.1,(0,none),⟨Nat.zero_le _,rfl⟩,?_,?_⟩
 ·exact (kR (t:=12) rfl (zc (q:=(none:Option (Pt×Pt)).isSome=true) dC)).trans (zi [(0,some 0),(1,some 1),(2,some 2),(3,some 3),(4,some 4)])
 rintro ⟨j,st⟩ ⟨h1,h2⟩
 have h1:j<=L.length:=h1;have h2:st=(L.take j).foldl za5 none:=h2;refine Br.mk (fun g=>?_) (fun g=>?_)
 ·have g:(j:Int) < L.length:=g;refine Ob.mk (by dsimp only;omega) ?_;refine Ob.mk (by dsimp only;omega) ?_;intro x hx;have hx:L[j]? =some x:=hx;have hxz:=hz x (List.mem_of_getElem? hx);have en:za5 st x=(L.take (j+1)).foldl za5 none:=by rw [h2,List.take_add_one,hx,List.foldl_append];rfl
  have inv:(j+1,za5 st x).1<=L.length/\(j+1,za5 st x).2=(L.take (j+1,za5 st x).1).foldl za5 none:=⟨by show j+1<=_;omega,en⟩;refine zb.t (ztn x hxz.1 hxz.2) ?_;refine Br.mk (fun h3=>?_) (fun h3=>?_)
  ·refine Ar.fit (by dsimp only;omega) ?_;have es:za5 st x=st:=if_pos h3;refine ⟨(j+1,za5 st x),inv,yU [(0,some 0),(1,some 1),(2,some 2),(3,some 3),(4,some 4)] rfl rfl rfl ?_ ?_,by show L.length - (j+1) < L.length - j;omega⟩
   ·rw [es];exact ⟨rfl,rfl,rfl,rfl,rfl,rfl,rfl,rfl,rfl,rfl,trivial⟩
   ·rw [es];exact ⟨rfl,rfl,rfl,rfl,rfl,trivial⟩
  ·refine Br.mk (fun h4=>?_) (fun h4=>?_)
   ·have h4:st=none:=by
     cases st with
     | none=>rfl
     | some a=>exact absurd rfl h4
    subst h4;have es:za5 none x=some (mnP (loR x) (loR x),mxP (hiR x) (hiR x)):=if_neg h3;refine Dr.d ?_;refine Ob.mk (by kernel_rfl) ?_;refine Ar.fit (by dsimp only;omega) ?_;refine ⟨(j+1,za5 none x),inv,(kR (t:=12) rfl (zH (q:=(za5 none x).isSome=true) (by rw [es];rfl))).trans (yU [(0,some 0),(1,some 1),(2,some 2),(3,some 3),(4,some 4)] rfl rfl rfl ⟨rfl,rfl,rfl,rfl,rfl,rfl,rfl,rfl,rfl,rfl,trivial⟩ ?_),by show L.length - (j+1) < L.length - j;omega⟩;rw [es];exact ⟨rfl,rfl,rfl,rfl,rfl,trivial⟩
   ·obtain ⟨⟨a,b⟩,h4⟩:∃a,st=some a:=by
     cases st with
     | none=>exact absurd (show ¬(none:Option (Pt×Pt)).isSome=true by decide) h4
     | some a=>exact ⟨a,rfl⟩
    subst h4;have es:za5 (some (a,b)) x=some (mnP a (loR x),mxP b (hiR x)):=if_neg h3;refine Ar.fit (by dsimp only;omega) ?_;refine ⟨(j+1,za5 (some (a,b)) x),inv,(kR (t:=12) rfl (zu (q:=(za5 (some (a,b)) x).isSome=true) ⟨fun _=>by rw [es];rfl,fun _=>rfl⟩)).trans (yU [(0,some 0),(1,some 1),(2,some 2),(3,some 3),(4,some 4)] rfl rfl rfl ⟨rfl,rfl,rfl,rfl,rfl,rfl,rfl,rfl,rfl,rfl,trivial⟩ ?_),by show L.length - (j+1) < L.length - j;omega⟩;rw [es];exact ⟨rfl,rfl,rfl,rfl,rfl,trivial⟩
 ·have g:¬(j:Int) < L.length:=g;rw [List.take_of_length_le oM] at h2;have e0:zqa (u9 s i)=st:=by rw [hL,h2];rfl
  unfold ancE;rw [e0];clear h2 e0;refine Br.mk (fun h4=>?_) (fun h4=>?_)
  ·have h4:st=none:=by
    cases st with
    | none=>rfl
    | some a=>exact absurd rfl h4
   subst h4;exact zS .refl (zc (show ¬(none:Option (Pt×Pt)).isSome=true by decide))
  ·obtain ⟨⟨a,b⟩,h4⟩:∃a,st=some a:=by
    cases st with
    | none=>exact absurd (show ¬(none:Option (Pt×Pt)).isSome=true by decide) h4
    | some a=>exact ⟨a,rfl⟩
   subst h4;refine Dr.d ?_;refine zb.t (zoS a b u 256) ?_;refine zb.t (zoS a b v 256) ?_;refine Ob.mk (by kernel_rfl) ?_;exact zS .refl (zH rfl)
theorem zj1(s:Sc)(i:Int)(ht:jq s)(h:(zY s i).k≠2∨(zY s i).strk.length=0):ze Tryz.prog 27 [.agg (scE s),i64 i] [] (.val (.slice none 0 0)) []:=by
 refine zd tok mix Tryz.func27 rfl rfl rfl ?_;refine zb.t (zif s i ht) ?_;refine Br.mk (fun _=>.refl) (fun h1=>?_);intro hl0;refine Br.mk (fun _=>.refl) (fun h2=>?_);exact (h.elim h1 fun k=>h2 oM).elim
theorem zrD(s:Sc)(i:Int)(ht:jq s)(h:(zY s i).k≠3):ze Tryz.prog 28 [.agg (scE s),i64 i] [] (.val (.slice none 0 0)) []:=by
 refine zd tok mix Tryz.func28 rfl rfl rfl ?_;refine zb.t (zif s i ht) ?_;exact Br.mk (fun _=>.refl) (fun h1=>absurd h h1)
theorem zqc{s:Sc}{i:Int}(h:(zY s i).k≠2∨(zY s i).strk.length=0):zma s i=[]:=if_pos h
def zfV(t:AF):List BR:=[t.a,t.b,t.c,t.d,t.e,t.f]
theorem zmk(t:AF)(n:Nat):t.le n↔∀x∈zfV t,x.len<=n:=by
 unfold zfV AF.le;simp
instance instLe51 (t:AF) (n:Nat):Decidable (t.le n):=inferInstanceAs (Decidable (_/\_))
theorem zml(t:AF):ze Tryz.prog 23 [.agg (afE t)] [] (pr (t.le 12)) []:=by
 refine zd tok mix Tryz.func23 rfl rfl rfl ?_;refine ⟨BR,brE,zfV t,rfl,Ob.o0 ?_⟩;refine ⟨Nat,fun i=>⟨[(3,.own 0),(4,i64 (i:Int))],[(0,.arr 33 brE 4 (zfV t))],1,42,0⟩,fun i=>i<=(zfV t).length/\∀x∈(zfV t).take i,x.len<=12,fun i=>(zfV t).length - i,0,⟨Nat.zero_le _,fun x hx=>by cases hx⟩,?_,?_⟩
 ·exact zi [(0,some 1)]
 rintro i ⟨h1,h2⟩
 intro hl1;refine Br.mk (fun g=>?_) (fun g=>?_)
 ·have g:(i:Int) < (zfV t).length:=g;refine Ob.o ?_;refine Ob.o ?_;intro x hx;have hx:(zfV t)[i]? =some x:=hx;have no:¬x.len<=12->¬t.le 12:=fun h k=>h ((zmk t 12).1 k x (List.mem_of_getElem? hx))
  intro hl2;refine Br.mk (fun b=>?_) (fun b=>?_)
  ·have b:(12:Int) < x.num.mag.length:=b;exact zc (no (by unfold BR.len;omega))
  have b:¬(12:Int) < x.num.mag.length:=b;refine Ob.o ?_;refine Ob.o ?_;intro x' hx';have ex:x'=x:=Option.some.inj ((show (zfV t)[i]? =some x' from hx').symm.trans hx);rw [ex];intro hl3;refine Br.mk (fun c=>?_) (fun c=>?_)
  ·have c:(12:Int) < x.den.mag.length:=c;exact zc (no (by unfold BR.len;omega))
  have c:¬(12:Int) < x.den.mag.length:=c;refine Ar.o ?_;exact ⟨i+1,⟨oM,zdo hx h2 (by unfold BR.len;omega)⟩,zi [(0,some 0)],by dsimp only;omega⟩
 ·have g:¬(i:Int) < (zfV t).length:=g;rw [List.take_of_length_le oM] at h2;exact zH ((zmk t 12).2 h2)
instance (lo hi p:Pt):Decidable (inB lo hi p):=inferInstanceAs (Decidable (_/\_))
theorem q_one:((1:Int):Rat)=1:=rfl
theorem q_zero:((0:Int):Rat)=0:=rfl
theorem znz(x y:BR)(hx:x.len<=1000)(hy:y.len<=1000):ze Tryz.prog 55 [.agg (brE x),.agg (brE y)] [] (.agg (afE (afQ x.v ((0:Int):Rat) ((0:Int):Rat) y.v ((0:Int):Rat) ((0:Int):Rat)))) []:=by
 refine zd tok mix Tryz.func55 rfl rfl rfl ?_
 refine zb.to _ ((zcA 0 0 0 0 zBR zBR dC dC dC dC dC dC).args
  (.cons .refl (.cons .refl (.cons .refl (.cons .refl (.cons (zuI qh) (.cons (zuI qh) .nil))))))) rfl ?_
 rw [zoJ];refine zb.t (zU x oM) ?_;refine zb.t (zU y oM) ?_;exact .refl
theorem LEs.d:∀{us bs:List SV},LEs us bs->qz.flats bs=true->kS us bs
 | [],[],_,_=>.nil
 | _::_,b::bs,.cons h t,hf=>by
  have hb:qz b=true/\qz.flats bs=true:=by
   have hf:(match qz b with | true=>qz.flats bs | false=>false)=true:=hf
   cases hb:qz b with
   | true=>rw [hb] at hf;exact ⟨rfl,hf⟩
   | false=>rw [hb] at hf;cases hf
  exact .cons (fun S w v hd=>jz hb.1 (h S (fun _=>False) (fun _=>none) w v (.d _ _ hd))) (LEs.d t hb.2)
def scl2:AF:=afQ ((2:Int):Rat) ((0:Int):Rat) ((0:Int):Rat) ((2:Int):Rat) ((0:Int):Rat) ((0:Int):Rat)
def nd0:Nd:={ zNd with id:=1,k:=1,t:=scl2,op:=255,mode:=1 }
def nd1:Nd:={ zNd with id:=2,k:=2,d:=1,t:=idA,path:=y3 0 0 1 1,rule:=1,fill:=[zuK 1] }
def nd1c:Nd:={ nd1 with clip:=y3 0 0 1 1 }
def nd1d:Nd:={ nd1c with cr:=2 }
def pgS:Sc:=⟨4,4,⟨0,0,0,0⟩,[nd0,nd1]⟩
def pgC:Sc:=⟨4,4,⟨0,0,0,0⟩,[nd0,nd1d]⟩
def zSc:Sc:=⟨0,0,⟨0,0,0,0⟩,[]⟩
def pc1:List SV:=i64 1::u8 0::u8 0::u8 0::u8 0::i64 0::i64 0::i64 0::i64 0::i64 0::nil1::i64 0::i64 0::i64 0::nil1::i64 0::jb
def uE(_:Unit):List SV:=pc1
def zk8:List SV:=[i64 0,i64 0,i64 0,i64 0,.val (.slice none 0 0),i64 0,.val (.slice none 0 0),i64 0,i64 0,.val (.slice none 0 0),i64 0]
def cs0:List SV:=i64 1::i64 1::i64 0::(afE scl2++([.val (.slice none 0 0),i64 0,u8 255,i64 1,bl false,bl false,.val (.slice none 0 0),i64 0,.val (.slice none 0 0)]++zk8))
def cs1(f:SV):List SV:=i64 2::i64 2::i64 1::(afE idA++([.val (.slice none 0 0),i64 0,u8 0,i64 0,bl false,bl false,.sl sgE (y3 0 0 1 1),i64 1,f]++zk8))
theorem zmm:LEs zk8 (zf6 ⟨0,0,0,0,[],0⟩++(.sl jW []::(zfB ⟨0,0,[]⟩++[i64 0]))):=
 .cons .refl (.cons .refl (.cons .refl (.cons .refl (.cons zI (.cons .refl (.cons zI (.cons .refl (.cons .refl (.cons zI (.cons .refl .nil))))))))))
theorem zto:LEs cs0 (ndE nd0):=.cons .refl (.cons .refl (.cons .refl (LEs.append .refl (.cons zI (.cons .refl (.cons .refl (.cons .refl (.cons (zc dC) (.cons (zc dC) (.cons zI (.cons .refl (.cons zI zmm))))))))))))
theorem ztp:LEs pc1 (jW (zuK 1)):=
 .cons .refl (.cons .refl (.cons .refl (.cons .refl (.cons .refl (.cons .refl (.cons .refl (.cons .refl (.cons .refl (.cons .refl (.cons zI (.cons .refl (.cons .refl (.cons .refl (.cons zI (.cons .refl zfF)))))))))))))))
theorem ztq:LEs (cs1 (.sl uE [()])) (ndE nd1):=.cons .refl (.cons .refl (.cons .refl (LEs.append .refl (.cons zI (.cons .refl (.cons .refl (.cons .refl (.cons (zc dC) (.cons (zc dC) (.cons .refl (.cons .refl
 (.cons (zs2 (e:=uE) (g:=jW) (fun _=>zuK 1) (xs:=[()]) fun _ _=>LEs.d ztp rfl) zmm))))))))))))
theorem ztr(f g:SV)(j:Nat)(s':SV)(h:(cs1 g)[j]? =some s'):∃s,(cs1 f)[j]? =some s/\(s'=s∨(s=f/\s'=g)):=by
 have e:cs1 g=(cs1 f).set 35 g:=rfl;have hl:(cs1 f).length=47:=rfl;rw [e,List.getElem?_set] at h
 by_cases c:35=j
 ·subst c;rw [if_pos rfl,if_pos (by rw [hl];decide)] at h;exact ⟨f,rfl,.inr ⟨rfl,(Option.some.inj h).symm⟩⟩
 ·rw [if_neg c] at h;exact ⟨s',h,.inl rfl⟩
theorem zts:ze Tryz.prog 24 [] [] (.agg (scO pgS 0)) [(0,jM [nd0,nd1])]:=by
 refine zf5 tok mix Tryz.func24 rfl rfl rfl ?_;have r2:R64 2:=dC;have l2:=uI r2;refine zb.t (qg 2 r2) ?_;refine zb.t (qg 2 r2) ?_;refine zb.t (znz (ofQ ((2:Int):Rat)) (ofQ ((2:Int):Rat)) oM oM) ?_;rw [zN];refine Dr.d ?_;refine zb.t zcB ?_;refine zb.t (zjp 0 0 1 1) ?_;refine ⟨Unit,uE,[()],rfl,Ob.o0 ?_⟩;refine ⟨[cs0,cs1 (.own 2)],rfl,Ob.mk ⟨rfl,dC,dC,dC,fun x hx=>?_⟩ ?_⟩
 ·rcases List.mem_cons.1 hx with rfl | hx
  ·rfl
  ·rw [List.mem_singleton.1 hx];rfl
 refine Ob.mk (by kernel_rfl) ?_
 refine ⟨_,((zhz (sz0:=47) (T0:=66) 2 3 (enc:=uE) (ys:=[()]) (xs:=[cs0,cs1 (.own 2)]) rfl rfl (xs':=[cs0,cs1 (.sl uE [()])]) rfl (fun x hx=>?_) (fun i j x' s' hx hs=>?_)).trans
  (zbg 3 (xs:=[cs0,cs1 (.sl uE [()])]) (ys:=[nd0,nd1].map ndE) rfl (.cons zto (.cons ztq .nil)))).trans (ziU 3 ndE [nd0,nd1] rfl (fun _ _=>rfl)),some 3,?_,rfl,fun _ _=>rfl⟩
 ·rcases List.mem_cons.1 hx with rfl | hx
  ·rfl
  ·rw [List.mem_singleton.1 hx];rfl
 ·match i,hx with
  | 0,hx=>cases hx;exact ⟨cs0,s',rfl,hs,.inl rfl⟩
  | 1,hx=>
   cases hx
   obtain ⟨s,h1,h2⟩:=ztr (.own 2) _ j s' hs;exact ⟨_,s,rfl,h1,h2⟩
  | i+2,hx=>cases hx
 ·exact zoa (.cons (uv rfl) (.cons (uv rfl) (.cons (uv rfl) (.cons (uv rfl) (.cons (uv rfl) (.cons (uv rfl) (.cons (.own 3 rfl) .nil)))))))
theorem zeh(n:Nd)(h1:n.t.le 100)(h2:n.fill=[]∨n.fill=[zuK 1])(h3:n.strk=[])(h4:n.im.px=[])(h5:n.path.length<=300)(h6:n.clip.length<=300):zsc n:=by
 have hs:zaZ n.strk:=by rw [h3];exact fun p hp=>by cases hp
 refine ⟨h1,⟨h1.up dC,?_,hs,by rw [h4];decide⟩,h5,h6⟩;intro p hp
 rcases h2 with h2 | h2
 ·rw [h2] at hp;cases hp
 ·rw [h2,List.mem_singleton] at hp;subst hp;exact ⟨qL _,dC⟩
theorem zii:scl2.le 100:=by decide +kernel
theorem uY:jq pgS:=fun _ n hn=>by
 rcases List.mem_cons.1 hn with rfl | hn
 ·exact zeh _ zii (.inl rfl) rfl rfl dC dC
 ·rw [List.mem_singleton.1 hn];exact zeh _ (zhP.up dC) (.inr rfl) rfl rfl (uX 0 0 1 1) dC
theorem zfW:jq pgC:=fun _ n hn=>by
 rcases List.mem_cons.1 hn with rfl | hn
 ·exact zeh _ zii (.inl rfl) rfl rfl dC dC
 ·rw [List.mem_singleton.1 hn];exact zeh _ (zhP.up dC) (.inr rfl) rfl rfl (uX 0 0 1 1) (uX 0 0 1 1)
theorem ztt:jq zSc:=fun _ n hn=>by cases hn
theorem zqd:(yP pgS 1).map List.length=[4]/\((yP pgS 1).headD []).getD 2 zp=⟨512,512⟩:=by decide +kernel
theorem ztu:zjP pgC 1=yP pgS 1/\0 < (zY pgC 1).clip.length/\¬0 < (zY pgS 1).clip.length:=by decide +kernel
theorem zrE:(zF pgS 1).1.same scl2/\(zF pgS 1).2=0/\(zF pgS 2).2=8/\(zF zSc 0).2=18:=by decide +kernel
theorem zqe:(zdX pgS 1 ⟨512,0⟩).2=0/\(zdX pgS 1 ⟨512,0⟩).1.1.v=((256:Int):Rat)/\(zdX pgS 1 ⟨512,0⟩).1.2.v=((0:Int):Rat)/\zp7 pgS 1 ⟨3,4⟩=(⟨6,8⟩,0):=by decide +kernel
theorem ztv:(zdX pgS 1 ⟨512,0⟩).1.1.len<=1000/\(zdX pgS 1 ⟨512,0⟩).1.2.len<=1000:=by decide +kernel
theorem zrF:(zY pgS 1).strk=[]/\(zY pgC 1).strk=[]/\(zY pgC 1).k=2:=by decide +kernel
theorem zrG:∀l∈u9 pgS 1,l.length<=4096/\u7 l<=4096:=by decide +kernel
theorem zqf:zse (zqa (u9 pgS 1)) 128 128=⟨256,256⟩/\(zqa (u9 pgS 1)).isSome=true:=by decide +kernel
theorem one4G{L:List (List Pt)}(h:L.map List.length=[4]):∃r,L=[r]/\r.length=4:=by
 cases L with
 | nil=>cases h
 | cons r t=>
  have h1:=List.cons.inj h;have e:t=[]:=List.map_eq_nil_iff.1 h1.2;exact ⟨r,by rw [e],h1.1⟩
theorem zg6:ze Tryz.prog 8 [] [] (bl true) []:=by
 refine zd tok mix Tryz.func8 rfl rfl rfl ?_;refine zb.fresh _ _ zts rfl (fun _ _=>rfl) (.inl rfl) ?_;refine zb.give [0] 0 [.agg (scO pgS 0),i64 1] [(0,jM pgS.ns)] [(0,jM pgS.ns)] (.sl qu (yP pgS 1)) (zp5 pgS 1 uY) LEs.refl rfl rfl rfl ⟨⟨_,rfl,rfl,trivial⟩,trivial⟩ rfl ⟨⟨rfl,trivial⟩,trivial⟩ ?_;refine zb.give [0] 0 [.agg (scO pgS 0),i64 1] [(0,jM pgS.ns)] [(0,jM pgS.ns)] (zjY (zF pgS 1)) (zc2 pgS 1 uY) LEs.refl rfl rfl rfl ⟨⟨_,rfl,rfl,trivial⟩,trivial⟩ rfl ⟨⟨rfl,trivial⟩,trivial⟩ ?_
 refine zb.give [0] 0 [.agg (scO pgS 0),i64 2] [(0,jM pgS.ns)] [(0,jM pgS.ns)] (zjY (zF pgS 2)) (zc2 pgS 2 uY) LEs.refl rfl rfl rfl ⟨⟨_,rfl,rfl,trivial⟩,trivial⟩ rfl ⟨⟨rfl,trivial⟩,trivial⟩ ?_;refine zb.t ((zeg zSc 0 ztt).args (.cons (zuI (.cons .refl (.cons .refl (.cons .refl (.cons .refl (.cons .refl (.cons .refl (.cons zI .nil)))))))) LEs.refl)) ?_;refine zb.give [0] 0 [.agg (scO pgS 0),i64 1] [(0,jM pgS.ns)] [(0,jM pgS.ns)] (zfS pgS 1) (zjZ pgS 1 uY) LEs.refl rfl rfl rfl ⟨⟨_,rfl,rfl,trivial⟩,trivial⟩ rfl ⟨⟨rfl,trivial⟩,trivial⟩ ?_
 refine zb.give [0] 0 [.agg (scO pgS 0),i64 1,.agg (ptE ⟨512,0⟩)] [(0,jM pgS.ns)] [(0,jM pgS.ns)] (zp8 pgS 1 ⟨512,0⟩) (ztm pgS 1 ⟨512,0⟩ uY) LEs.refl rfl rfl rfl ⟨⟨_,rfl,rfl,trivial⟩,trivial⟩ rfl ⟨⟨rfl,trivial⟩,trivial⟩ ?_;have hk:=zrF
 have hS:ze Tryz.prog 27 [.agg (scE pgS),i64 1] [] (.sl qu (zma pgS 1)) []:=by
  rw [zqc (.inr (by rw [hk.1];rfl))];exact (zj1 pgS 1 uY (.inr (by rw [hk.1];rfl))).le zI
 refine zb.t (zny pgS 1 128 128 uY hS zrG) ?_;refine zb.t (zuo pgS 1 ⟨3,4⟩ uY) ?_;have hc:=zqe;have hw:=zrE;have ha:=zqf;have hx:=ztu;have r256:R64 256:=dC;have r0:R64 0:=dC;refine Dr.d ?_;refine Br.mk (fun k=>absurd hc.1 k) (fun _=>?_);refine zb.t (qg 256 r256) ?_;have l256:=uI r256;have l0:=uI r0;have hl:=ztv;have q1:=zhO (zdX pgS 1 ⟨512,0⟩).1.1 (ofQ ((256:Int):Rat)) oM oM;have q2:=zhO (zdX pgS 1 ⟨512,0⟩).1.2 (ofQ ((0:Int):Rat)) oM oM;rw [hc.2.1,zN,show zdk ((256:Int):Rat) ((256:Int):Rat)=0 from kL.2 rfl] at q1
 rw [hc.2.2.1,zN,show zdk ((0:Int):Rat) ((0:Int):Rat)=0 from kL.2 rfl] at q2;refine zb.t q1 ?_;refine Br.mk (fun k=>absurd rfl k) (fun _=>?_);refine zb.t (qg 0 r0) ?_;refine zb.t q2 ?_;refine Br.mk (fun k=>absurd rfl k) (fun _=>?_);refine Br.mk (fun k=>absurd ha.2 k) (fun _=>?_);refine Br.mk (fun k=>absurd (jd.2 ha.1) k) (fun _=>?_);refine Br.mk (fun k=>absurd (congrArg Prod.snd hc.2.2.2) k) (fun _=>?_);refine Ob.mk (by kernel_rfl) ?_;refine Br.mk (fun k=>absurd (jd.2 (congrArg Prod.fst hc.2.2.2)) k) (fun _=>?_)
 have i1:(0:Int)<=1/\(1:Int) < (([nd0,nd1]:List Nd).length:Int):=dC;refine Dr.d ?_;refine Ob.mk i1 ?_;refine Ob.mk i1 ?_;intro y hy;have hy:y=nd1:=(Option.some.inj hy).symm;refine Ob.mk i1 ?_;refine Ob.mk i1 ?_;intro z hz;have hz:z=nd1:=(Option.some.inj hz).symm;refine ⟨nd1c,by rw [hz,hy];rfl,?_⟩;refine Ob.mk (by kernel_rfl) ?_;refine Ob.mk i1 ?_;refine Ob.mk i1 ?_;intro z2 hz2;have hz2:z2=nd1c:=(Option.some.inj hz2).symm;refine ⟨nd1d,by rw [hz2];rfl,?_⟩
 refine zb.give [0] 0 [.agg (scO pgC 0),i64 1] [(0,jM pgC.ns)] [(0,jM pgC.ns)] (zfS pgC 1) (zjZ pgC 1 zfW) LEs.refl rfl rfl rfl ⟨⟨_,rfl,rfl,trivial⟩,trivial⟩ rfl ⟨⟨rfl,trivial⟩,trivial⟩ ?_;obtain ⟨r,hr,hr4⟩:=one4G zqd.1;have hr2:=zqd.2;rw [hr] at hr2;have hr2:r.getD 2 zp=⟨512,512⟩:=hr2;have i0:(0:Int)<=0/\(0:Int) < (yP pgS 1).length:=by rw [hr];exact ⟨Int.le_refl _,show (0:Int) < 1 by decide⟩
 refine Dr.d ?_;intro hl0;refine Br.mk (fun _=>?_) (fun k=>absurd (by rw [hr];rfl) k);refine Ob.mk i0 ?_;intro a ha0
 have ha0:a=r:=by
  have ha0:(yP pgS 1)[0]? =some a:=ha0;rw [hr] at ha0;exact (Option.some.inj ha0).symm
 intro hl1;refine Br.mk (fun _=>?_) (fun k=>absurd (by rw [ha0,hr4];rfl) k);refine Ob.mk i0 ?_;intro b hb0
 have hb0:b=r:=by
  have hb0:(yP pgS 1)[0]? =some b:=hb0;rw [hr] at hb0;exact (Option.some.inj hb0).symm
 refine Ob.mk (by rw [hb0,hr4];decide) ?_;intro q hq
 have hq:q=⟨512,512⟩:=by
  have hq:b[2]? =some q:=hq;rw [hb0] at hq;rw [← hr2,List.getD_eq_getElem?_getD,hq];rfl
 refine Br.mk (fun _=>?_) (fun k=>absurd (jd.2 hq) k);have j0:(0:Int)<=0/\(0:Int) < (([nd0,nd1]:List Nd).length:Int):=dC;refine Ob.mk j0 ?_;refine Ob.mk j0 ?_;intro n hn;have hn:n=nd0:=(Option.some.inj hn).symm;have he:=zdn (zF pgS 1).1 n.t ((jL pgS 1).up dC) (by rw [hn];exact zii.up dC);refine zb.t he ?_;refine Br.mk (fun _=>?_) (fun k=>absurd (by rw [hn];exact hw.1) k);refine Br.mk (fun _=>?_) (fun k=>absurd hw.2.1 k);refine Br.mk (fun _=>?_) (fun k=>absurd hw.2.2.1 k);refine Br.mk (fun _=>?_) (fun k=>absurd hw.2.2.2 k)
 refine Br.mk (fun _=>?_) (fun k=>absurd hx.2.2 k);refine Br.mk (fun _=>?_) (fun k=>absurd hx.2.1 k);refine zb.t (zsQ (zjP pgC 1) (yP pgS 1)) ?_;refine Br.mk (fun _=>?_) (fun k=>absurd hx.1 k);refine zb.t (zj1 pgC 1 zfW (.inr (by rw [hk.2.1];rfl))) ?_;refine Br.mk (fun _=>?_) (fun k=>absurd rfl k);refine zb.t (zrD pgC 1 zfW (by rw [hk.2.2];decide)) ?_;refine Br.mk (fun _=>?_) (fun k=>absurd rfl k);refine Ob.mk (by kernel_rfl) ?_;exact .refl
end Go.Gs
