/- Points of a node and of the page, both texts. -/
import Derived.Test.YtjgadnaphffpkaaGreatDoorMA
import Derived.Test.YtjgadnaphffpkaaGreatDoorMBD
import Derived.Test.YtjgadnaphffpkaaGreatDoorMAZ
import Derived.Test.YtjgadnaphffpkaaGreatDoorMAR
import Derived.Test.YtjgadnaphffpkaaGreatDoorMAQ
import Derived.Test.YtjgadnaphffpkaaGreatDoorMBC
import Derived.Test.YtjgadnaphffpkaaGreatDoorMAP
import Derived.Test.YtjgadnaphffpkaaGreatDoorMAT
import Derived.Test.YtjgadnaphffpkaaGreatDoorMBA
import Derived.Test.YtjgadnaphffpkaaGreatDoorChecked
import Derived.LaidLaws
import Derived.LaidHandle
import Derived.Stop.Joined
import Derived.Test.YtjgadnaphffpkaaGreatDoorRows
set_option maxRecDepth 100000
set_option maxHeartbeats 8000000
set_option linter.all false
namespace Go.Gs
open Go.Proofs
theorem zkK{k:Nat}(h0:k≠0)(h:k < 4294967296):zm k=[⟨k,h⟩]:=by
 rw[zdn h0,show k / 4294967296=0 by omega,jr];congr 1;exact Fin.ext (Xu h)
theorem zte(n:Int):ofQ (n:Rat)=⟨ofZ n,ofZ 1⟩:=by unfold ofQ;rw[Jq,Jp];rfl
theorem zbe{n:Int}(h:R64 n):(ofQ (n:Rat)).len<=3:=by
 have h1:=qO h;have h2:=qO (n:=1) dC;rw[zte];show max (ofZ n).mag.length (ofZ 1).mag.length<=3;rw[zS,zS];omega
theorem ztf(n:Int)(h: -1048576<=n/\n<=1048576):CG0 45 [i64 n] [] (.agg (brE (ofQ (n:Rat)))) []:=by
 have e1:zm 1=[⟨1,dC⟩]:=zkK dC dC;rw[zte];refine zc Tryz.func45 ?_;refine⟨Dig,dgE,[⟨1,dC⟩],rfl,Ob.o10 ?_⟩;have hone:LEs [bl false,.sl dgE [(⟨1,dC⟩:Dig)]] (biE (ofZ 1)):=.cons (zd dC) (.cons (z9 (show _=zm 1 from e1.symm)) .nil);refine⟨λh0=>?_,λh0=>?_⟩
 ·have h0:¬n=0:=h0;refine Ar.o ?_;have hm:max n (-n)=(n.natAbs:Int):=oM;refine Ar.fit (show 0<=max n (-n)/\max n (-n)<=4294967295 by omega) ?_;have hk:n.natAbs < 4294967296:=oM;refine⟨Dig,dgE,[⟨n.natAbs,hk⟩],congrArg (λq=>[u32 q]) hm.symm,Ob.o10 ?_⟩;exact qA (.cons (zF (by show n < 0↔decide (n < 0)=true;simp)) (.cons (z9 (show _=zm n.natAbs from(zkK oM hk).symm)) hone))
 ·have h0:n=0:=Xa.1 h0;subst h0;exact qA (.cons (zd dC) (.cons (by rw[show(ofZ 0).mag=[] from jr];exact zD) hone))
def zx0(s:Sc)(i:Int)(p:Pt):Pt×Int:=if (zP s i).2≠0 then(zp,(zP s i).2) else kI (zP s i).1 p
def ntpE(s:Sc)(i:Int)(p:Pt):SV:=.tup [.agg (ptE (zx0 s i p).1),i64 (zx0 s i p).2]
theorem w_ntp(s:Sc)(i:Int)(p:Pt)(ht:yz s):CG0 21 [.agg (scE s),i64 i,.agg (ptE p)] [] (ntpE s i p) []:=by
 refine zc Tryz.func21 ?_;refine zb.t (znU s i ht)<|⟨λh=>by rw[ntpE,show zx0 s i p=(zp,(zP s i).2) from if_pos h];exact zI .refl .refl,λh=>?_⟩;refine zb.t (zcC (zP s i).1 p ((yO s i).up dC)) ?_;rw[ntpE,show zx0 s i p=kI (zP s i).1 p from if_neg h];exact zI .refl .refl
theorem zBZ{t:AF}(ht:t.le 100):(zhz t).1.le 10200:=by
 unfold zhz
 split
 ·exact yy _
 split
 ·exact yy _
 split
 ·exact yy _
 ·rename_i h _;exact(zs1 ht dC h).up dC
def zif(s:Sc)(i:Int)(p:Pt):(BR×BR)×Int:=if (zP s i).2≠0 then((zBR,zBR),(zP s i).2) else if ¬zr p then((zBR,zBR),6) else if (zhz (zP s i).1).2≠0 then((zBR,zBR),(zhz (zP s i).1).2)
 else((ofQ (yX (zhz (zP s i).1).1 (p.x:Rat) (p.y:Rat)),ofQ (yY (zhz (zP s i).1).1 (p.x:Rat) (p.y:Rat))),0)
def zx1(s:Sc)(i:Int)(p:Pt):SV:=.tup [.agg (brE (zif s i p).1.1),.agg (brE (zif s i p).1.2),i64 (zif s i p).2]
theorem zAq:LE (.agg z4) (.agg (brE zBR)):=qA jP
variable{i:Int}{p:Pt}
theorem znX{s:Sc}{e:Int}(h:zif s i p=((zBR,zBR),e)):LE (.tup [.agg z4,.agg z4,i64 e]) (zx1 s i p):=by
 unfold zx1;rw[h];exact zam (.cons zAq (.cons zAq (.cons .refl .nil)))
theorem ptXb(h:zr p): -1048576<=p.x/\p.x<=1048576:=by unfold zr at h;omega
theorem ptYb(h:zr p): -1048576<=p.y/\p.y<=1048576:=by unfold zr at h;omega
theorem ptX(h:zr p):R64 p.x:=by have:=ptXb h;omega
theorem ptY(h:zr p):R64 p.y:=by have:=ptYb h;omega
theorem zB0(s:Sc)(i:Int)(p:Pt)(ht:yz s):CG0 20 [.agg (scO s 0),i64 i,.agg (ptE p)] [(0,uQ s.ns)] (zx1 s i p) [(0,uQ s.ns)]:=by
 refine uq tok mix Tryz.func20 rfl rfl rfl (λ_ _=>rfl) rfl<|zb.give [0] 0 [.agg (scO s 0),i64 i] [(0,uQ s.ns)] [(0,uQ s.ns)] (zqm (zP s i)) (zgM s i ht) LEs.refl rfl rfl rfl ⟨⟨_,rfl,rfl,trivial⟩,trivial⟩ rfl ⟨⟨rfl,trivial⟩,trivial⟩<|⟨λh=>⟨rfl,znX (if_pos h)⟩,λh1=>?_⟩;refine zb.t (qg p)<|⟨λh=>⟨rfl,znX ((if_neg h1).trans (if_pos h))⟩,λh2=>?_⟩;have hp:zr p:=Xa.1 h2;refine zb.t (zxx (zP s i).1 (yO s i)) ?_
 refine⟨λh=>⟨rfl,znX ((if_neg h1).trans ((if_neg h2).trans (if_pos h)))⟩,λh3=>?_⟩;have hx:R64 p.x:=ptX hp;have hy:R64 p.y:=ptY hp;have il:=zBZ (yO s i);refine Dr.k<|zb.t (ztf p.x (ptXb hp))<|zb.t (ztf p.y (ptYb hp))<|zb.t (zis (zhz (zP s i).1).1 (ofQ (p.x:Rat)) (ofQ (p.y:Rat)) (il.up dC) (by have:=zbe hx;omega) (by have:=zbe hy;omega)) ?_;rw[z6,z6];refine Dr.d<|Ob.mk (by kernel_rfl) ?_;rw[zx1,show zif s i p=_ from(if_neg h1).trans ((if_neg h2).trans (if_neg h3))]
 exact⟨rfl,zam (.cons .refl (.cons .refl (.cons .refl .nil)))⟩
theorem zzJ(xs:List Pt):zhG (.arr 35 ptE 2 xs):=λ_ _=>rfl
theorem zzK(n:Int)(h0:0<=n)(h1:n<=4096):CG0 136 [.val (.slice none 0 0),i64 n] [] (.own 0) [(0,.arr 35 ptE 2 [])]:=by
 refine qS tok mix Tryz.func136 rfl rfl rfl<|Br.mk (λh=>absurd h oM) (λ_=>?_);refine Ar.fit dC<|Ar.o<|Br.mk (λh=>?_) (λh=>?_)
 ·refine Ob.mk ⟨rfl,rfl,rfl⟩<|⟨Pt,ptE,zp,rfl,Ob.mk ⟨dC,h,(by show _*(16:Int)<=_;omega),oM⟩ ?_⟩;refine Sl.keep (Ob.mk ⟨rfl,Qb _,oM⟩ ?_);exact⟨some 1,.own _ rfl,rfl,λ_ _=>rfl⟩
 ·exact⟨none,.nil rfl,rfl⟩
variable{rs:List (List Pt)}
theorem zuR{i:Nat}{x:List Pt}(h:rs[i]? =some x):(rs.take (i+1)).flatten=(rs.take i).flatten++x:=by
 rw[Xm,h];simp
theorem zqo(rs:List (List Pt)):rs.flatten.length=qB rs:=by unfold qB;rw[List.length_flatten]
theorem zuS(rs:List (List Pt))(hc:qB rs<=4096):CG0 68 [.sl zk rs] [] (.own 0) [(0,.arr 35 ptE 2 rs.flatten)]:=by
 refine qS tok mix Tryz.func68 rfl rfl rfl ?_;intro hl0;refine⟨Nat,λi=>⟨[(11,i64 (i:Int)),(10,i64 (rs.length:Int)),(9,.sl zk rs),(3,i64 (qB (rs.take i):Int)),(0,.sl zk rs)],[],0,36,0⟩,λi=>i<=rs.length,λi=>rs.length - i,0,Xe _,zE [],?_⟩;intro i hi;have hi:i<=rs.length:=hi;refine⟨λg=>?_,λg=>?_⟩
 ·have g:(i:Int) < rs.length:=g;refine Ob.o ?_;intro x hx;have hx:rs[i]? =some x:=hx;have e:=vL hx;have:=zcA rs (i+1);intro hl1;refine Ar.o<|Br.mk (λh=>absurd h oM) (λ_=>?_);exact Ar.o<|⟨i+1,by show i+1<=_;omega,jG [] ⟨rfl,rfl,rfl,congrArg (λn=>some (i64 n)) (by rw[e];omega),rfl,trivial⟩ trivial,by dsimp only;omega⟩
 ·have g:¬(i:Int) < rs.length:=g;have et:rs.take i=rs:=Xg oM;refine zb.fresh _ _ (zzK (qB (rs.take i):Int) oM (by rw[et];omega)) rfl (zzJ _) (.inl rfl) ?_;intro hl2;refine⟨Nat,λi=>⟨[(27,i64 (i:Int)),(26,i64 (rs.length:Int)),(25,.sl zk rs),(6,.own 0)],[(0,.arr 35 ptE 2 (rs.take i).flatten)],1,36,0⟩,λi=>i<=rs.length,λi=>rs.length - i,0,Xe _,zf [0],?_⟩;intro j hj;have hj:j<=rs.length:=hj;refine⟨λg=>?_,λg=>?_⟩
  ·have g:(j:Int) < rs.length:=g;refine Ob.o ?_;intro x hx;have hx:rs[j]? =some x:=hx;have e:=vL hx;have k1:=zcA rs (j+1);have k2:=zqo (rs.take j);refine⟨x,rfl,Ob.mk ⟨(by show((rs.take j).flatten.length+x.length:Int)*(16:Int)<=_;omega),oM,dC,λ_ _=>rfl⟩ ?_⟩;exact Ar.o<|⟨j+1,by show j+1<=_;omega,zC [1] ⟨congrArg (λq=>some (Mem.arr 35 ptE 2 q)) (zuR hx).symm,trivial⟩,by dsimp only;omega⟩
  ·have g:¬(j:Int) < rs.length:=g;exact⟨some 0,.own _ rfl,congrArg (λq=>some (Mem.arr 35 ptE 2 q)) (by rw[Xg (show rs.length<=j by omega)]),λ_ _=>rfl⟩
def zkL(rs:List (List Pt)):Prop:=rs.flatten≠[]/\ur rs
instance (rs:List (List Pt)):Decidable (zkL rs):=inferInstanceAs (Decidable (_/\_))
def loR(rs:List (List Pt)):Pt:=if zkL rs then bnd mnP rs.flatten else zp
def hiR(rs:List (List Pt)):Pt:=if zkL rs then bnd mxP rs.flatten else zp
def pbE(rs:List (List Pt)):SV:=.tup [.agg (ptE (loR rs)),.agg (ptE (hiR rs)),pr (zkL rs)]
theorem zx2(h:¬zkL rs):LE (.tup [.agg [i64 0,i64 0],.agg [i64 0,i64 0],bl false]) (pbE rs):=by
 unfold pbE loR hiR;rw[if_neg h,if_neg h];exact zam (.cons .refl (.cons .refl (.cons (zd h) .nil)))
theorem zB1(rs:List (List Pt))(hc:qB rs<=4096):CG0 33 [.sl zk rs] [] (pbE rs) []:=by
 refine zc Tryz.func33 ?_;refine zb.t ((zuS rs hc).plain rfl) ?_;generalize hq:rs.flatten=q;have hql:q.length<=4096:=by rw[← hq,zqo];exact hc
 intro hl0;refine⟨λh=>zx2 λk=>k.1 (by rw[hq];exact Xn oM),λh1=>?_⟩;refine zb.t (zjP rs λr hr=>?_) ?_
 ·obtain⟨j,hj,e⟩:=Kg hr;have k1:=vL (rs:=rs) (i:=j) (Xb hj);have k2:=zcA rs (j+1);rw[e]at k1;omega
 refine⟨λh=>zx2 λk=>h k.2,λh2=>?_⟩;have h2:ur rs:=Xa.1 h2;have hne:q≠[]:=λk=>h1 (by rw[k];rfl)
 have hs:zkL rs:=⟨by rw[hq];exact hne,h2⟩
 obtain⟨p0,t0,hq0⟩:∃p t,q=p::t:=by
  cases q with
  | nil=>exact absurd rfl hne
  | cons p t=>exact⟨p,t,rfl⟩
 have hp0:q[0]? =some p0:=by rw[hq0];rfl
 refine Dr.d<|Ob.o ?_;intro x hx;have hx:x=p0:=Xj ((show q[0]? =some x from hx).symm.trans hp0);rw[hx];refine Ob.o ?_;intro y hy;have hy:y=p0:=Xj ((show q[0]? =some y from hy).symm.trans hp0);rw[hy];refine Ob.mk (by kernel_rfl) ?_;intro hl1
 refine⟨Nat,λi=>⟨[(30,i64 (i:Int)),(29,i64 (q.length:Int)),(28,.sl ptE q),(7,.loc 3 0),(6,.loc 2 0),(3,.loc 1 0),(2,.loc 0 0)],
  [(3,.box 35 (ptE ((q.take i).foldl mxP p0))),(2,.box 35 (ptE ((q.take i).foldl mnP p0))),(1,.box 35 (ptE zp)),(0,.box 35 (ptE zp))],4,59,0⟩,
  λi=>i<=q.length,λi=>q.length - i,0,Xe _,?_,?_⟩
 ·exact zf [0,1,2,3]
 intro i hi;have hi:i<=q.length:=hi;refine⟨λg=>?_,λg=>?_⟩
 ·have g:(i:Int) < q.length:=g;refine Ob.o ?_;intro z hz;have hz:q[i]? =some z:=hz;have e:∀f:Pt->Pt->Pt,(q.take (i+1)).foldl f p0=f ((q.take i).foldl f p0) z:=λf=>by rw[Xm,hz,KP];rfl
  refine Ar.o ?_
  exact⟨i+1,by show i+1<=_;omega,qw [(0,some 0),(1,some 1),(2,some 2),(3,some 3)] rfl rfl rfl ⟨rfl,rfl,rfl,rfl,rfl,rfl,rfl,trivial⟩
   ⟨congrArg (λp=>some (Mem.box 35 (ptE p))) (e mxP).symm,congrArg (λp=>some (Mem.box 35 (ptE p))) (e mnP).symm,rfl,rfl,trivial⟩,by dsimp only;omega⟩
 ·have g:¬(i:Int) < q.length:=g;have et:q.take i=q:=Xg oM;refine Dr.d<|Ob.mk (by kernel_rfl) ?_
  have eb:∀f:Pt->Pt->Pt,(q.take i).foldl f p0=bnd f rs.flatten:=λf=>by
   rw[et,hq];unfold bnd;rw[hq0];rfl
  rw[eb,eb];unfold pbE loR hiR;rw[if_pos hs,if_pos hs];exact zam (.cons .refl (.cons .refl (.cons (zT hs) .nil)))
def zdX(st:Option (Pt×Pt))(rs:List (List Pt)):Option (Pt×Pt):=if ¬zkL rs then st else match st with
 | none=>some (mnP (loR rs) (loR rs),mxP (hiR rs) (hiR rs))
 | some (a,b)=>some (mnP a (loR rs),mxP b (hiR rs))
def zx3(l:List (List (List Pt))):Option (Pt×Pt):=l.foldl zdX none
def oLo(st:Option (Pt×Pt)):Pt:=match st with | none=>zp | some (a,_)=>a
def oHi(st:Option (Pt×Pt)):Pt:=match st with | none=>zp | some (_,b)=>b
def zAr(st:Option (Pt×Pt))(u v:Int):Pt:=match st with
 | none=>zp
 | some (a,b)=>⟨(yl a b u 256).x,(yl a b v 256).y⟩
def zbG(s:Sc)(i:Int):List (List (List Pt)):=[yN s i,zbv s i,zie s i]
def ancE(s:Sc)(i u v:Int):SV:=.tup [.agg (ptE (zAr (zx3 (zbG s i)) u v)),pr ((zx3 (zbG s i)).isSome=true)]
def zx4(l:List (List Pt)):List SV:=[.sl zk l]
theorem zuT (s:Sc) (i u v:Int) (ht:yz s) (hS:CG0 10 [.agg (scE s),i64 i] [] (.sl zk (zbv s i)) [])
  (hz:∀l∈zbG s i,qB l<=4096):CG0 14 [.agg (scE s),i64 i,i64 u,i64 v] [] (ancE s i u v) []:=by
 refine zc Tryz.func14 ?_;refine Dr.d<|zb.t (ztd s i ht)<|zb.t hS<|zb.t (zxY s i ht)<|⟨List (List Pt),zx4,zbG s i,rfl,Ob.o0 ?_⟩;intro hl0;refine Ob.mk (by kernel_rfl) ?_;have hl3:(zbG s i).length=3:=rfl;generalize hL:zbG s i=L at hz hl3 ⊢
 refine⟨Nat×Option (Pt×Pt),λq=>⟨[(29,i64 (q.1:Int)),(28,i64 (L.length:Int)),(27,.own 4),(12,pr (q.2.isSome=true)),(11,.loc 3 0),(10,.loc 2 0),(8,.loc 1 0),(4,.loc 0 0),(3,i64 v),(2,i64 u)],
  [(4,.arr 30 zx4 1 L),(3,.box 35 (ptE (oHi q.2))),(2,.box 35 (ptE (oLo q.2))),(1,.box 35 (ptE zp)),(0,.box 26 (scE s))],5,82,0⟩,
  λq=>q.1<=L.length/\q.2=(L.take q.1).foldl zdX none,λq=>L.length - q.1,(0,none),⟨Xe _,rfl⟩,?_,?_⟩
 ·exact(jm (t:=12) rfl (zd (q:=(none:Option (Pt×Pt)).isSome=true) dC)).trans (zf [0,1,2,3,4])
 rintro⟨j,st⟩ ⟨h1,h2⟩
 have h1:j<=L.length:=h1;have h2:st=(L.take j).foldl zdX none:=h2;refine⟨λg=>?_,λg=>?_⟩
 ·have g:(j:Int) < L.length:=g;refine Ob.mk (by dsimp only;omega)<|Ob.mk (by dsimp only;omega) ?_;intro x hx;have hx:L[j]? =some x:=hx;have hxz:=hz x (Xd hx);have en:zdX st x=(L.take (j+1)).foldl zdX none:=by rw[h2,Xm,hx,KP];rfl
  have inv:(j+1,zdX st x).1<=L.length/\(j+1,zdX st x).2=(L.take (j+1,zdX st x).1).foldl zdX none:=⟨by show j+1<=_;omega,en⟩;refine zb.t (zB1 x hxz)<|⟨λh3=>?_,λh3=>?_⟩
  ·refine Ar.fit (by dsimp only;omega) ?_;have es:zdX st x=st:=if_pos h3;refine⟨(j+1,zdX st x),inv,qw [(0,some 0),(1,some 1),(2,some 2),(3,some 3),(4,some 4)] rfl rfl rfl ?_ ?_,by show L.length - (j+1) < L.length - j;omega⟩
   ·rw[es];exact⟨rfl,rfl,rfl,rfl,rfl,rfl,rfl,rfl,rfl,rfl,trivial⟩
   ·rw[es];exact⟨rfl,rfl,rfl,rfl,rfl,trivial⟩
  ·refine⟨λh4=>?_,λh4=>?_⟩
   ·have h4:st=none:=by
     cases st with
     | none=>rfl
     | some a=>exact absurd rfl h4
    subst h4;have es:zdX none x=some (mnP (loR x) (loR x),mxP (hiR x) (hiR x)):=if_neg h3;refine Dr.d<|Ob.mk (by kernel_rfl)<|Ar.fit (by dsimp only;omega)<|⟨(j+1,zdX none x),inv,(jm (t:=12) rfl (zT (q:=(zdX none x).isSome=true) (by rw[es];rfl))).trans (qw [(0,some 0),(1,some 1),(2,some 2),(3,some 3),(4,some 4)] rfl rfl rfl ⟨rfl,rfl,rfl,rfl,rfl,rfl,rfl,rfl,rfl,rfl,trivial⟩ ?_),by show L.length - (j+1) < L.length - j;omega⟩;rw[es];exact⟨rfl,rfl,rfl,rfl,rfl,trivial⟩
   ·obtain⟨⟨a,b⟩,h4⟩:∃a,st=some a:=by
     cases st with
     | none=>exact absurd (show ¬(none:Option (Pt×Pt)).isSome=true by decide) h4
     | some a=>exact⟨a,rfl⟩
    subst h4;have es:zdX (some (a,b)) x=some (mnP a (loR x),mxP b (hiR x)):=if_neg h3;refine Ar.fit (by dsimp only;omega)<|⟨(j+1,zdX (some (a,b)) x),inv,(jm (t:=12) rfl (zF (q:=(zdX (some (a,b)) x).isSome=true) ⟨λ_=>by rw[es];rfl,λ_=>rfl⟩)).trans (qw [(0,some 0),(1,some 1),(2,some 2),(3,some 3),(4,some 4)] rfl rfl rfl ⟨rfl,rfl,rfl,rfl,rfl,rfl,rfl,rfl,rfl,rfl,trivial⟩ ?_),by show L.length - (j+1) < L.length - j;omega⟩;rw[es];exact⟨rfl,rfl,rfl,rfl,rfl,trivial⟩
 ·have g:¬(j:Int) < L.length:=g;rw[Xg oM]at h2;have e0:zx3 (zbG s i)=st:=by rw[hL,h2];rfl
  unfold ancE;rw[e0];clear h2 e0;refine⟨λh4=>?_,λh4=>?_⟩
  ·have h4:st=none:=by
    cases st with
    | none=>rfl
    | some a=>exact absurd rfl h4
   subst h4;exact zI .refl (zd (show ¬(none:Option (Pt×Pt)).isSome=true by decide))
  ·obtain⟨⟨a,b⟩,h4⟩:∃a,st=some a:=by
    cases st with
    | none=>exact absurd (show ¬(none:Option (Pt×Pt)).isSome=true by decide) h4
    | some a=>exact⟨a,rfl⟩
   subst h4;exact Dr.d<|zb.t (znb a b u 256)<|zb.t (znb a b v 256)<|Ob.mk (by kernel_rfl)<|zI .refl (zT rfl)
theorem zqp(s:Sc)(i:Int)(ht:yz s)(h:(kB s i).k≠2∨(kB s i).strk.length=0):CG0 10 [.agg (scE s),i64 i] [] (.val (.slice none 0 0)) []:=by
 refine zc Tryz.func10 ?_;refine zb.t (zkI s i ht)<|⟨λ_=>.refl,λh1=>?_⟩;intro hl0;refine⟨λ_=>.refl,λh2=>?_⟩;exact(h.elim h1 λk=>h2 oM).elim
theorem zzL(s:Sc)(i:Int)(ht:yz s)(h:(kB s i).k≠3):CG0 12 [.agg (scE s),i64 i] [] (.val (.slice none 0 0)) []:=by
 refine zc Tryz.func12 ?_;exact zb.t (zkI s i ht)<|⟨λ_=>.refl,λh1=>absurd h h1⟩
theorem zkM{s:Sc}(h:(kB s i).k≠2∨(kB s i).strk.length=0):zbv s i=[]:=if_pos h
def zkN(t:AF):List BR:=[t.a,t.b,t.c,t.d,t.e,t.f]
theorem ztg(t:AF)(n:Nat):t.le n↔∀x∈zkN t,x.len<=n:=by
 unfold zkN AF.le;simp
instance instLe51 (t:AF) (n:Nat):Decidable (t.le n):=inferInstanceAs (Decidable (_/\_))
theorem zth(t:AF):CG0 16 [.agg (afE t)] [] (pr (t.le 12)) []:=by
 refine zc Tryz.func16 ?_;refine⟨BR,brE,zkN t,rfl,Ob.o0 ?_⟩;refine⟨Nat,λi=>⟨[(3,.own 0),(4,i64 (i:Int))],[(0,.arr 43 brE 4 (zkN t))],1,42,0⟩,λi=>i<=(zkN t).length/\∀x∈(zkN t).take i,x.len<=12,λi=>(zkN t).length - i,0,⟨Xe _,λx hx=>by cases hx⟩,?_,?_⟩
 ·exact zf [1]
 rintro i ⟨h1,h2⟩
 intro hl1;refine⟨λg=>?_,λg=>?_⟩
 ·have g:(i:Int) < (zkN t).length:=g;refine Ob.o<|Ob.o ?_;intro x hx;have hx:(zkN t)[i]? =some x:=hx;have no:¬x.len<=12->¬t.le 12:=λh k=>h ((ztg t 12).1 k x (Xd hx))
  intro hl2;refine⟨λb=>?_,λb=>?_⟩
  ·have b:(12:Int) < x.num.mag.length:=b;exact zd (no (by unfold BR.len;omega))
  have b:¬(12:Int) < x.num.mag.length:=b;refine Ob.o<|Ob.o ?_;intro x' hx';have ex:x'=x:=Xj ((show(zkN t)[i]? =some x' from hx').symm.trans hx);rw[ex];intro hl3;refine⟨λc=>?_,λc=>?_⟩
  ·have c:(12:Int) < x.den.mag.length:=c;exact zd (no (by unfold BR.len;omega))
  have c:¬(12:Int) < x.den.mag.length:=c;exact Ar.o<|⟨i+1,⟨oM,yx hx h2 (by unfold BR.len;omega)⟩,zf [0],by dsimp only;omega⟩
 ·have g:¬(i:Int) < (zkN t).length:=g;rw[Xg oM]at h2;exact zT ((ztg t 12).2 h2)
instance (lo hi p:Pt):Decidable (inB lo hi p):=inferInstanceAs (Decidable (_/\_))
theorem q_one:((1:Int):Rat)=1:=rfl
theorem q_zero:((0:Int):Rat)=0:=rfl
theorem zuU(x y:BR)(hx:x.len<=1000)(hy:y.len<=1000):CG0 37 [.agg (brE x),.agg (brE y)] [] (.agg (afE (afQ x.v ((0:Int):Rat) ((0:Int):Rat) y.v ((0:Int):Rat) ((0:Int):Rat)))) []:=by
 refine zc Tryz.func37 ?_
 refine zb.to _ ((zf0 0 0 0 0 zBR zBR dC dC dC dC dC dC).args
  (.cons .refl (.cons .refl (.cons .refl (.cons .refl (.cons (qA jP) (.cons (qA jP) .nil))))))) rfl ?_
 rw[zwb];exact zb.t (kv x oM)<|zb.t (kv y oM)<|.refl
theorem LEs.d:∀{us bs:List SV},LEs us bs->ym.flats bs=true->jq us bs
 | [],[],_,_=>.nil
 | _::_,b::bs,.cons h t,hf=>by
  have hb:ym b=true/\ym.flats bs=true:=by
   have hf:(match ym b with | true=>ym.flats bs | false=>false)=true:=hf
   cases hb:ym b with
   | true=>rw[hb]at hf;exact⟨rfl,hf⟩
   | false=>rw[hb]at hf;cases hf
  exact .cons (λS w v hd=>uB hb.1 (h S (λ_=>False) (λ_=>none) w v (.d _ _ hd))) (LEs.d t hb.2)
def scl2:AF:=afQ ((2:Int):Rat) ((0:Int):Rat) ((0:Int):Rat) ((2:Int):Rat) ((0:Int):Rat) ((0:Int):Rat)
def nd0:Nd:={ zNd with id:=1,k:=1,t:=scl2,op:=255,mode:=1 }
def nd1:Nd:={ zNd with id:=2,k:=2,d:=1,t:=idA,path:=vB 0 0 1 1,rule:=1,fill:=[zba 1] }
def nd1c:Nd:={ nd1 with clip:=vB 0 0 1 1 }
def nd1d:Nd:={ nd1c with cr:=2 }
def pgS:Sc:=⟨4,4,⟨0,0,0,0⟩,[nd0,nd1]⟩
def pgC:Sc:=⟨4,4,⟨0,0,0,0⟩,[nd0,nd1d]⟩
def zSc:Sc:=⟨0,0,⟨0,0,0,0⟩,[]⟩
def pc1:List SV:=i64 1::u8 0::u8 0::u8 0::u8 0::i64 0::i64 0::i64 0::i64 0::i64 0::nil1::i64 0::i64 0::i64 0::nil1::i64 0::yU
def uE(_:Unit):List SV:=pc1
def zrH:List SV:=[i64 0,i64 0,i64 0,i64 0,.val (.slice none 0 0),i64 0,.val (.slice none 0 0),i64 0,i64 0,.val (.slice none 0 0),i64 0]
def cs0:List SV:=i64 1::i64 1::i64 0::(afE scl2++([.val (.slice none 0 0),i64 0,u8 255,i64 1,bl false,bl false,.val (.slice none 0 0),i64 0,.val (.slice none 0 0)]++zrH))
def cs1(f:SV):List SV:=i64 2::i64 2::i64 1::(afE idA++([.val (.slice none 0 0),i64 0,u8 0,i64 0,bl false,bl false,.sl sgE (vB 0 0 1 1),i64 1,f]++zrH))
theorem zti:LEs zrH (ji ⟨0,0,0,0,[],0⟩++(.sl u5 []::(zkp ⟨0,0,[]⟩++[i64 0]))):=
 .cons .refl (.cons .refl (.cons .refl (.cons .refl (.cons zD (.cons .refl (.cons zD (.cons .refl (.cons .refl (.cons zD (.cons .refl .nil))))))))))
theorem zB2:LEs cs0 (ndE nd0):=.cons .refl (.cons .refl (.cons .refl (LEs.append .refl (.cons zD (.cons .refl (.cons .refl (.cons .refl (.cons (zd dC) (.cons (zd dC) (.cons zD (.cons .refl (.cons zD zti))))))))))))
theorem zB3:LEs pc1 (u5 (zba 1)):=
 .cons .refl (.cons .refl (.cons .refl (.cons .refl (.cons .refl (.cons .refl (.cons .refl (.cons .refl (.cons .refl (.cons .refl (.cons zD (.cons .refl (.cons .refl (.cons .refl (.cons zD (.cons .refl zkt)))))))))))))))
theorem zB4:LEs (cs1 (.sl uE [()])) (ndE nd1):=.cons .refl (.cons .refl (.cons .refl (LEs.append .refl (.cons zD (.cons .refl (.cons .refl (.cons .refl (.cons (zd dC) (.cons (zd dC) (.cons .refl (.cons .refl
 (.cons (zxm (e:=uE) (g:=u5) (λ_=>zba 1) (xs:=[()]) λ_ _=>LEs.d zB3 rfl) zti))))))))))))
theorem zB5(f g:SV)(j:Nat)(s':SV)(h:(cs1 g)[j]? =some s'):∃s,(cs1 f)[j]? =some s/\(s'=s∨(s=f/\s'=g)):=by
 have e:cs1 g=(cs1 f).set 35 g:=rfl;have hl:(cs1 f).length=47:=rfl;rw[e,Kq]at h
 by_cases c:35=j
 ·subst c;rw[if_pos rfl,if_pos (by rw[hl];decide)]at h;exact⟨f,rfl,.inr ⟨rfl,(Xj h).symm⟩⟩
 ·rw[if_neg c]at h;exact⟨s',h,.inl rfl⟩
theorem zB6:CG0 17 [] [] (.agg (scO pgS 0)) [(0,uQ [nd0,nd1])]:=by
 refine zeE tok mix Tryz.func17 rfl rfl rfl ?_;have r2:R64 2:=dC;have l2:=zbe r2;refine zb.t (jf 2 r2)<|zb.t (jf 2 r2)<|zb.t (zuU (ofQ ((2:Int):Rat)) (ofQ ((2:Int):Rat)) oM oM) ?_;rw[z6];refine Dr.d<|zb.t zf1<|zb.t (zhV 0 0 1 1)<|⟨Unit,uE,[()],rfl,Ob.o0 ?_⟩;refine⟨[cs0,cs1 (.own 2)],rfl,Ob.mk ⟨rfl,dC,dC,dC,λx hx=>?_⟩ ?_⟩
 ·rcases Kn.1 hx with rfl | hx
  ·rfl
  ·rw[Xr.1 hx];rfl
 refine Ob.mk (by kernel_rfl) ?_
 refine⟨_,((zco (sz0:=47) (T0:=55) 2 3 (enc:=uE) (ys:=[()]) (xs:=[cs0,cs1 (.own 2)]) rfl rfl (xs':=[cs0,cs1 (.sl uE [()])]) rfl (λx hx=>?_) (λi j x' s' hx hs=>?_)).trans
  (zd8 3 (xs:=[cs0,cs1 (.sl uE [()])]) (ys:=[nd0,nd1].map ndE) rfl (.cons zB2 (.cons zB4 .nil)))).trans (zfQ 3 ndE [nd0,nd1] rfl (λ_ _=>rfl)),some 3,?_,rfl,λ_ _=>rfl⟩
 ·rcases Kn.1 hx with rfl | hx
  ·rfl
  ·rw[Xr.1 hx];rfl
 ·match i,hx with
  | 0,hx=>cases hx;exact⟨cs0,s',rfl,hs,.inl rfl⟩
  | 1,hx=>
   cases hx
   obtain⟨s,h1,h2⟩:=zB5 (.own 2) _ j s' hs;exact⟨_,s,rfl,h1,h2⟩
  | i+2,hx=>cases hx
 ·exact zvw (.cons (zaW rfl) (.cons (zaW rfl) (.cons (zaW rfl) (.cons (zaW rfl) (.cons (zaW rfl) (.cons (zaW rfl) (.cons (.own 3 rfl) .nil)))))))
theorem ziE(n:Nd)(h1:n.t.le 100)(h2:n.fill=[]∨n.fill=[zba 1])(h3:n.strk=[])(h4:n.im.px=[])(h5:n.path.length<=300)(h6:n.clip.length<=300):zAp n:=by
 have hs:zdR n.strk:=by rw[h3];exact λp hp=>by cases hp
 refine⟨h1,⟨h1.up dC,?_,hs,by rw[h4];decide⟩,h5,h6⟩;intro p hp
 rcases h2 with h2 | h2
 ·rw[h2]at hp;cases hp
 ·rw[h2,Xr]at hp;subst hp;exact⟨yy _,dC⟩
theorem znY:scl2.le 100:=by decide +kernel
theorem zbx:yz pgS:=λ_ n hn=>by
 rcases Kn.1 hn with rfl | hn
 ·exact ziE _ znY (.inl rfl) rfl rfl dC dC
 ·rw[Xr.1 hn];exact ziE _ (zm7.up dC) (.inr rfl) rfl rfl (zbw 0 0 1 1) dC
theorem zkO:yz pgC:=λ_ n hn=>by
 rcases Kn.1 hn with rfl | hn
 ·exact ziE _ znY (.inl rfl) rfl rfl dC dC
 ·rw[Xr.1 hn];exact ziE _ (zm7.up dC) (.inr rfl) rfl rfl (zbw 0 0 1 1) (zbw 0 0 1 1)
theorem zB7:yz zSc:=λ_ n hn=>by cases hn
theorem zx5:(yN pgS 1).map List.length=[4]/\((yN pgS 1).headD []).getD 2 zp=⟨512,512⟩:=by decide +kernel
theorem zB8:zqd pgC 1=yN pgS 1/\0 < (kB pgC 1).clip.length/\¬0 < (kB pgS 1).clip.length:=by decide +kernel
theorem zzM:(zP pgS 1).1.same scl2/\(zP pgS 1).2=0/\(zP pgS 2).2=8/\(zP zSc 0).2=18:=by decide +kernel
theorem zx6:(zif pgS 1 ⟨512,0⟩).2=0/\(zif pgS 1 ⟨512,0⟩).1.1.v=((256:Int):Rat)/\(zif pgS 1 ⟨512,0⟩).1.2.v=((0:Int):Rat)/\zx0 pgS 1 ⟨3,4⟩=(⟨6,8⟩,0):=by decide +kernel
theorem zB9:(zif pgS 1 ⟨512,0⟩).1.1.len<=1000/\(zif pgS 1 ⟨512,0⟩).1.2.len<=1000:=by decide +kernel
theorem zzN:(kB pgS 1).strk=[]/\(kB pgC 1).strk=[]/\(kB pgC 1).k=2:=by decide +kernel
theorem zzO:∀l∈zbG pgS 1,qB l<=4096:=by decide +kernel
theorem zx7:zAr (zx3 (zbG pgS 1)) 128 128=⟨256,256⟩/\(zx3 (zbG pgS 1)).isSome=true:=by decide +kernel
theorem one4G{L:List (List Pt)}(h:L.map List.length=[4]):∃r,L=[r]/\r.length=4:=by
 cases L with
 | nil=>cases h
 | cons r t=>
  have h1:=List.cons.inj h;have e:t=[]:=List.map_eq_nil_iff.1 h1.2;exact⟨r,by rw[e],h1.1⟩
theorem zmo:CG0 6 [] [] (bl true) []:=by
 refine zc Tryz.func6 ?_;refine zb.fresh _ _ zB6 rfl (λ_ _=>rfl) (.inl rfl)<|zb.give [0] 0 [.agg (scO pgS 0),i64 1] [(0,uQ pgS.ns)] [(0,uQ pgS.ns)] (.sl zk (yN pgS 1)) (zxX pgS 1 zbx) LEs.refl rfl rfl rfl ⟨⟨_,rfl,rfl,trivial⟩,trivial⟩ rfl ⟨⟨rfl,trivial⟩,trivial⟩<|zb.give [0] 0 [.agg (scO pgS 0),i64 1] [(0,uQ pgS.ns)] [(0,uQ pgS.ns)] (zqm (zP pgS 1)) (zgM pgS 1 zbx) LEs.refl rfl rfl rfl ⟨⟨_,rfl,rfl,trivial⟩,trivial⟩ rfl ⟨⟨rfl,trivial⟩,trivial⟩ ?_
 refine zb.give [0] 0 [.agg (scO pgS 0),i64 2] [(0,uQ pgS.ns)] [(0,uQ pgS.ns)] (zqm (zP pgS 2)) (zgM pgS 2 zbx) LEs.refl rfl rfl rfl ⟨⟨_,rfl,rfl,trivial⟩,trivial⟩ rfl ⟨⟨rfl,trivial⟩,trivial⟩<|zb.t ((znU zSc 0 zB7).args (.cons (qA (.cons .refl (.cons .refl (.cons .refl (.cons .refl (.cons .refl (.cons .refl (.cons zD .nil)))))))) LEs.refl))<|zb.give [0] 0 [.agg (scO pgS 0),i64 1] [(0,uQ pgS.ns)] [(0,uQ pgS.ns)] (zkJ pgS 1) (zqn pgS 1 zbx) LEs.refl rfl rfl rfl ⟨⟨_,rfl,rfl,trivial⟩,trivial⟩ rfl ⟨⟨rfl,trivial⟩,trivial⟩ ?_
 refine zb.give [0] 0 [.agg (scO pgS 0),i64 1,.agg (ptE ⟨512,0⟩)] [(0,uQ pgS.ns)] [(0,uQ pgS.ns)] (zx1 pgS 1 ⟨512,0⟩) (zB0 pgS 1 ⟨512,0⟩ zbx) LEs.refl rfl rfl rfl ⟨⟨_,rfl,rfl,trivial⟩,trivial⟩ rfl ⟨⟨rfl,trivial⟩,trivial⟩ ?_;have hk:=zzN
 have hS:CG0 10 [.agg (scE pgS),i64 1] [] (.sl zk (zbv pgS 1)) []:=by
  rw[zkM (.inr (by rw[hk.1];rfl))];exact(zqp pgS 1 zbx (.inr (by rw[hk.1];rfl))).le zD
 refine zb.t (zuT pgS 1 128 128 zbx hS zzO)<|zb.t (w_ntp pgS 1 ⟨3,4⟩ zbx) ?_;have hc:=zx6;have hw:=zzM;have ha:=zx7;have hx:=zB8;have r256:R64 256:=dC;have r0:R64 0:=dC;refine Dr.d<|Br.mk (λk=>absurd hc.1 k) (λ_=>?_);refine zb.t (jf 256 r256) ?_;have l256:=zbe r256;have l0:=zbe r0;have hl:=zB9;have q1:=zm6 (zif pgS 1 ⟨512,0⟩).1.1 (ofQ ((256:Int):Rat)) oM oM;have q2:=zm6 (zif pgS 1 ⟨512,0⟩).1.2 (ofQ ((0:Int):Rat)) oM oM;rw[hc.2.1,z6,show zg6 ((256:Int):Rat) ((256:Int):Rat)=0 from qU.2 rfl]at q1
 rw[hc.2.2.1,z6,show zg6 ((0:Int):Rat) ((0:Int):Rat)=0 from qU.2 rfl]at q2;refine zb.t q1<|Br.mk (λk=>absurd rfl k) (λ_=>?_);refine zb.t (jf 0 r0)<|zb.t q2<|Br.mk (λk=>absurd rfl k) (λ_=>?_);refine⟨λk=>absurd ha.2 k,λ_=>?_⟩;refine⟨λk=>absurd (k8.2 ha.1) k,λ_=>?_⟩;refine⟨λk=>absurd (congrArg Prod.snd hc.2.2.2) k,λ_=>?_⟩;refine Ob.mk (by kernel_rfl)<|⟨λk=>absurd (k8.2 (congrArg Prod.fst hc.2.2.2)) k,λ_=>?_⟩
 have i1:(0:Int)<=1/\(1:Int) < (([nd0,nd1]:List Nd).length:Int):=dC;refine Dr.d<|Ob.mk i1<|Ob.mk i1 ?_;intro y hy;have hy:y=nd1:=(Xj hy).symm;refine Ob.mk i1<|Ob.mk i1 ?_;intro z hz;have hz:z=nd1:=(Xj hz).symm;refine⟨nd1c,by rw[hz,hy];rfl,?_⟩;refine Ob.mk (by kernel_rfl)<|Ob.mk i1<|Ob.mk i1 ?_;intro z2 hz2;have hz2:z2=nd1c:=(Xj hz2).symm;refine⟨nd1d,by rw[hz2];rfl,?_⟩
 refine zb.give [0] 0 [.agg (scO pgC 0),i64 1] [(0,uQ pgC.ns)] [(0,uQ pgC.ns)] (zkJ pgC 1) (zqn pgC 1 zkO) LEs.refl rfl rfl rfl ⟨⟨_,rfl,rfl,trivial⟩,trivial⟩ rfl ⟨⟨rfl,trivial⟩,trivial⟩ ?_;obtain⟨r,hr,hr4⟩:=one4G zx5.1;have hr2:=zx5.2;rw[hr]at hr2;have hr2:r.getD 2 zp=⟨512,512⟩:=hr2;have i0:(0:Int)<=0/\(0:Int) < (yN pgS 1).length:=by rw[hr];exact⟨Qb _,show(0:Int) < 1 by decide⟩
 refine Dr.d ?_;intro hl0;refine⟨λ_=>?_,λk=>absurd (by rw[hr];rfl) k⟩;refine Ob.mk i0 ?_;intro a ha0
 have ha0:a=r:=by
  have ha0:(yN pgS 1)[0]? =some a:=ha0;rw[hr]at ha0;exact(Xj ha0).symm
 intro hl1;refine⟨λ_=>?_,λk=>absurd (by rw[ha0,hr4];rfl) k⟩;refine Ob.mk i0 ?_;intro b hb0
 have hb0:b=r:=by
  have hb0:(yN pgS 1)[0]? =some b:=hb0;rw[hr]at hb0;exact(Xj hb0).symm
 refine Ob.mk (by rw[hb0,hr4];decide) ?_;intro q hq
 have hq:q=⟨512,512⟩:=by
  have hq:b[2]? =some q:=hq;rw[hb0]at hq;rw[← hr2,Xt,hq];rfl
 refine⟨λ_=>?_,λk=>absurd (k8.2 hq) k⟩;have j0:(0:Int)<=0/\(0:Int) < (([nd0,nd1]:List Nd).length:Int):=dC;refine Ob.mk j0<|Ob.mk j0 ?_;intro n hn;have hn:n=nd0:=(Xj hn).symm;have he:=zlA (zP pgS 1).1 n.t ((yO pgS 1).up dC) (by rw[hn];exact znY.up dC);refine zb.t he<|Br.mk (λ_=>?_) (λk=>absurd (by rw[hn];exact hw.1) k);refine⟨λ_=>?_,λk=>absurd hw.2.1 k⟩;refine⟨λ_=>?_,λk=>absurd hw.2.2.1 k⟩;refine⟨λ_=>?_,λk=>absurd hw.2.2.2 k⟩
 refine⟨λ_=>?_,λk=>absurd hx.2.2 k⟩;refine⟨λ_=>?_,λk=>absurd hx.2.1 k⟩;refine zb.t (zng (zqd pgC 1) (yN pgS 1))<|⟨λ_=>?_,λk=>absurd hx.1 k⟩;refine zb.t (zqp pgC 1 zkO (.inr (by rw[hk.2.1];rfl)))<|⟨λ_=>?_,λk=>absurd rfl k⟩;refine zb.t (zzL pgC 1 zkO (by rw[hk.2.2];decide))<|⟨λ_=>?_,λk=>absurd rfl k⟩;exact Ob.mk (by kernel_rfl)<|.refl
def ltP(p:Pnt):Prop:=p.t.le 12/\p.st.length<=30/\p.im.px.length<=300
instance (p:Pnt):Decidable (ltP p):=inferInstanceAs (Decidable (_/\_))
def ltN(n:Nd):Prop:=(n.path.length<=24/\n.clip.length<=24/\n.pen.d.length<=20/\n.im.px.length<=300/\n.t.le 12/\n.fill.length<=3/\n.strk.length<=3)/\∀p∈n.fill++n.strk,ltP p
instance (n:Nd):Decidable (ltN n):=inferInstanceAs (Decidable (_/\_))
def ltS(s:Sc):Prop:=¬(8 < s.ns.length/\s.ns.length<=64)/\∀n∈s.ns.take 65,ltN n
instance (s:Sc):Decidable (ltS s):=inferInstanceAs (Decidable (_/\_))
theorem zzP{s:Sc}(h:ltS s):yz s:=λhl n hn=>by
 have hn:ltN n:=h.2 n (by rw[Xg oM];exact hn);obtain⟨⟨h1,h2,h3,h4,h5,h6,h7⟩,h8⟩:=hn
 have hp:∀p∈n.fill++n.strk,p.t.le 1000/\p.im.px.length<=9223372036854775807:=λp hp=>by
  obtain⟨g1,_,g3⟩:=h8 p hp;exact⟨g1.up dC,oM⟩
 exact⟨h5.up dC,⟨h5.up dC,λp q=>hp p (Ql _ q),λp q=>hp p (QA _ q),oM⟩,oM,oM⟩
theorem zx8(s:Sc):CG0 5 [.agg (scE s)] [] (pr (ltS s)) []:=by
 refine zc Tryz.func5 ?_;intro hl0;refine⟨λg1=>?_,λg1=>?_⟩
 all_goals first
  | (intro hl1;refine⟨λg2=>zd λk=>k.1 ⟨oM,oM⟩,λg2=>?_⟩;have h0:¬(8 < s.ns.length/\s.ns.length<=64):=λk=>g2 (by have:=k.2;omega))
  | have h0:¬(8 < s.ns.length/\s.ns.length<=64):=λk=>g1 (by have:=k.1;omega)
 all_goals
  refine⟨Nat,λi=>⟨[(3,i64 (i:Int)),(1,.loc 0 0)],[(0,.box 26 (scE s))],1,114,0⟩,λi=>i<=(s.ns.take 65).length/\∀n∈(s.ns.take 65).take i,ltN n,λi=>(s.ns.take 65).length - i,0,⟨Xe _,λn hn=>by cases hn⟩,?_,?_⟩
  ·exact zf [0]
  have htl:(s.ns.take 65).length=min 65 s.ns.length:=Xk
  rintro i ⟨h1,h2⟩
  have fin:¬((i:Int) < s.ns.length/\(i:Int)<=64)->LE (bl true) (pr (ltS s)):=λh=>zT ⟨h0,λn hn=>h2 n (by rw[Xg oM];exact hn)⟩
  intro hl2;refine⟨λg=>?_,λg=>fin λk=>g k.1⟩;have g:(i:Int) < s.ns.length:=g;refine⟨λg'=>?_,λg'=>fin λk=>g' k.2⟩;have g':(i:Int)<=64:=g';refine Ob.o ?_;intro x hx;have hx:s.ns[i]? =some x:=hx;have hx2:(s.ns.take 65)[i]? =some x:=by rw[Xv,if_pos oM];exact hx
  have bad:¬ltN x->LE (bl false) (pr (ltS s)):=λh=>zd λk=>h (k.2 x (Xd hx2))
  intro a0;refine⟨λk=>bad λq=>by have:=q.1.1;omega,λb1=>?_⟩;intro a1;refine⟨λk=>bad λq=>by have:=q.1.2.1;omega,λb2=>?_⟩;intro a2;refine⟨λk=>bad λq=>by have:=q.1.2.2.1;omega,λb3=>?_⟩;intro a3;refine⟨λk=>bad λq=>by have:=q.1.2.2.2.1;omega,λb4=>?_⟩;refine zb.t (zth x.t)<|⟨λk=>bad λq=>k q.1.2.2.2.2.1,λb5=>?_⟩;intro a5;refine⟨λk=>bad λq=>by have:=q.1.2.2.2.2.2.1;omega,λb6=>?_⟩;intro a6
  refine⟨λk=>bad λq=>by have:=q.1.2.2.2.2.2.2;omega,λb7=>?_⟩
  have ok1:x.path.length<=24/\x.clip.length<=24/\x.pen.d.length<=20/\x.im.px.length<=300/\x.t.le 12/\x.fill.length<=3/\x.strk.length<=3:=
   ⟨oM,oM,oM,oM,Xa.1 b5,oM,oM⟩
  refine Dr.d<|⟨Pnt,u5,[],rfl,Ob.o2 ?_⟩;refine⟨x.fill,rfl,Ob.mk ⟨by show(((0:Nat):Int)+(x.fill.length:Int))*_<=_;dsimp only;omega,by show 0+x.fill.length<=_;omega,dC,λ_ _=>rfl⟩ ?_⟩;refine⟨x.strk,rfl,Ob.mk ⟨by show((([]++x.fill:List Pnt).length:Int)+(x.strk.length:Int))*_<=_;rw[Qi];dsimp only;omega,by rw[Qi];omega,dC,λ_ _=>rfl⟩ ?_⟩;refine Ob.mk (by kernel_rfl) ?_;rw[Qi];generalize hP:x.fill++x.strk=P;have hPl:P.length<=6:=by rw[← hP,Xi];omega
  refine⟨Nat,λj=>⟨[(6,i64 (j:Int)),(5,.own 2),(4,.loc 1 0),(3,i64 (i:Int)),(1,.loc 0 0)],[(2,.arr 59 u5 40 P),(1,.box 55 (ndE x)),(0,.box 26 (scE s))],3,114,0⟩,λj=>j<=P.length/\∀p∈P.take j,ltP p,λj=>P.length - j,0,⟨Xe _,λp hp=>by cases hp⟩,?_,?_⟩
  ·exact zf [0,1,4]
  rintro j ⟨j1,j2⟩
  intro c0;refine⟨λq=>?_,λq=>?_⟩
  ·have q:(j:Int) < P.length:=q;refine Ob.o<|Ob.o ?_;intro p hp;have hp:P[j]? =some p:=hp;have hm:p∈x.fill++x.strk:=by rw[hP];exact Xd hp
   have badp:¬ltP p->LE (bl false) (pr (ltS s)):=λh=>bad λk=>h (k.2 p hm)
   refine zb.t (zth p.t)<|⟨λk=>badp λw=>k w.1,λd1=>?_⟩;refine Ob.o<|Ob.o ?_;intro p2 hp2;have e2:p2=p:=Xj ((show P[j]? =some p2 from hp2).symm.trans hp);rw[e2];intro c1;refine⟨λk=>badp λw=>by have:=w.2.1;omega,λd2=>?_⟩;refine Ob.o<|Ob.o ?_;intro p3 hp3;have e3:p3=p:=Xj ((show P[j]? =some p3 from hp3).symm.trans hp);rw[e3];intro c2;refine⟨λk=>badp λw=>by have:=w.2.2;omega,λd3=>?_⟩;refine Ar.o ?_
   have okp:ltP p:=⟨Xa.1 d1,oM,oM⟩;refine⟨j+1,⟨oM,λw hw=>?_⟩,zf [0,1,2],by dsimp only;omega⟩;rw[Xm,hp]at hw
   rcases Xo.1 hw with hw | hw
   ·exact j2 w hw
   ·rw[show w=p by simpa using hw];exact okp
  ·have q:¬(j:Int) < P.length:=q;rw[Xg oM]at j2;refine Ar.o<|⟨i+1,⟨oM,λw hw=>?_⟩,zf [0],by dsimp only;omega⟩;rw[Xm,hx2]at hw
   rcases Xo.1 hw with hw | hw
   ·exact h2 w hw
   ·rw[show w=x by simpa using hw];exact⟨ok1,by rw[hP];exact j2⟩
theorem zx9{t:AF}(h:(uO rs t).2≠0):(uO rs t).1=[]:=by
 unfold uO at h ⊢
 by_cases h1:¬ur rs
 ·rw[if_pos h1]
 rw[if_neg h1]at h ⊢
 by_cases h2:zhy t rs≠0
 ·rw[if_pos h2]
 rw[if_neg h2]at h;exact absurd rfl h
theorem zzQ{l:List Sg}{pen:Pen}{t:AF}{tol:Int}(h:(zb9 l pen t tol).2≠0):(zb9 l pen t tol).1=[]:=by
 unfold zb9 at h ⊢
 by_cases h1:¬kF pen
 ·rw[if_pos h1]
 rw[if_neg h1]at h ⊢
 by_cases h2:(z5 l tol).2≠0
 ·rw[if_pos h2]
 rw[if_neg h2]at h ⊢
 by_cases h3:(yh (z5 l tol).1 pen).2≠0
 ·rw[if_pos h3]
 rw[if_neg h3]at h ⊢
 by_cases h4:(qC (yh (z5 l tol).1 pen).1 pen).2≠0
 ·rw[if_pos h4]
 rw[if_neg h4]at h ⊢;exact zx9 h
def ztj(r:AF×Int)(l:List Sg)(pen:Pen):List (List Pt):=if r.2≠0 then[] else(zb9 l pen r.1 32).1
theorem zya(r:AF×Int)(l:List Sg)(pen:Pen)(ht:r.1.le 100):CG0 29 [.agg (afE r.1++[pr (r.2=0)]),.sl sgE l,.agg (ji pen)] [] (.sl zk (ztj r l pen)) []:=by
 refine zc Tryz.func29 ?_;refine⟨λh=>by rw[show ztj r l pen=[] from if_pos h];exact zD,λh=>?_⟩;have e:ztj r l pen=(zb9 l pen r.1 32).1:=if_neg h;refine zb.t (zuK l pen r.1 32 (ht.up dC)) ?_;rw[e];exact⟨λk=>by rw[zzQ k];exact zD,λ_=>.refl⟩
theorem zzR(s:Sc)(i:Int)(ht:yz s):CG0 10 [.agg (scE s),i64 i] [] (.sl zk (zbv s i)) []:=by
 refine zc Tryz.func10 ?_;refine zb.t (zkI s i ht)<|⟨λh=>by rw[zkM (.inl h)];exact zD,λh1=>?_⟩;intro hl0;refine⟨λh=>by rw[zkM (.inr oM)];exact zD,λh2=>?_⟩;refine zb.t (zya (zP s i) (kB s i).path (kB s i).pen (yO s i)) ?_;rw[show zbv s i=ztj (zP s i) (kB s i).path (kB s i).pen from if_neg λk=>k.elim h1 λq=>h2 oM];exact .refl
theorem zhE{s:Sc}(h:(zP s i).2=0):inS s i:=vT.2 λk=>by rw[h]at k;exact absurd k dC
theorem zzS(s:Sc)(i:Int)(ht:yz s):CG0 9 [.agg (scE s),i64 i] [] (.sl zk (yN s i)) []:=by
 refine zc Tryz.func9 ?_;refine zb.t (znV s i ht) ?_;have nil:yN s i=[]->LE (.val (.slice none 0 0)) (.sl zk (yN s i)):=λh=>by rw[h];exact zD
 refine⟨λh=>nil ?_,λh1=>?_⟩
 ·unfold yN zbc;rw[if_pos (show(zP s i).2≠0 from h)];split <;> rfl
 have h1:(zP s i).2=0:=Xa.1 h1;have hin:=zhE h1;obtain⟨n,hn⟩:=zah hin;have hi:=(Xc.1 hn).1;have hi0:=hin.2;have en:=zez hin hn;have get:∀x,s.ns[i.toNat]? =some x->x=n:=λx hx=>Xj (hx.symm.trans hn)
 refine Ob.o ?_;intro x hx;rw[get x hx];refine⟨λh=>nil ?_,λh2=>?_⟩
 ·exact if_pos (.inl (by rw[en];exact h))
 have h2:n.k=2:=Xa.1 h2;refine Ob.o ?_;intro x hx;rw[get x hx];intro _;refine⟨λh=>nil ?_,λh3=>?_⟩
 ·have h:(n.fill.length:Int)=0:=h;exact if_pos (.inr (by rw[en];omega))
 have h3:¬(n.fill.length:Int)=0:=h3;refine Dr.k<|Ob.o ?_;intro x hx;rw[get x hx];refine zb.t (zsY n.path (zP s i).1 32 ((yO s i).up dC)) ?_
 have e:yN s i=(zac n.path (zP s i).1 32).1:=by
  unfold yN zbc;rw[en,if_neg (λk=>k.elim (λk=>k h2) λk=>h3 oM),if_neg (λk=>k h1)]
 rw[e];exact .refl
theorem zzT(s:Sc)(i:Int)(ht:yz s):CG0 11 [.agg (scE s),i64 i] [] (.sl zk (zbv s i)) []:=by
 refine zc Tryz.func11 ?_;refine zb.t (znV s i ht) ?_;have nil:zbv s i=[]->LE (.val (.slice none 0 0)) (.sl zk (zbv s i)):=λh=>by rw[h];exact zD
 refine⟨λh=>nil ?_,λh1=>?_⟩
 ·unfold zbv;rw[if_pos (show(zP s i).2≠0 from h)];split <;> rfl
 have h1:(zP s i).2=0:=Xa.1 h1;have hin:=zhE h1;obtain⟨n,hn⟩:=zah hin;have hi:=(Xc.1 hn).1;have hi0:=hin.2;have en:=zez hin hn;have get:∀x,s.ns[i.toNat]? =some x->x=n:=λx hx=>Xj (hx.symm.trans hn)
 refine Ob.o ?_;intro x hx;rw[get x hx];refine⟨λh=>nil ?_,λh2=>?_⟩
 ·exact if_pos (.inl (by rw[en];exact h))
 have h2:n.k=2:=Xa.1 h2;refine Ob.o ?_;intro x hx;rw[get x hx];intro _;refine⟨λh=>nil ?_,λh3=>?_⟩
 ·have h:(n.strk.length:Int)=0:=h;exact if_pos (.inr (by rw[en];omega))
 have h3:¬(n.strk.length:Int)=0:=h3;refine Dr.k<|Ob.o ?_;intro x hx;rw[get x hx];refine Ob.o ?_;intro x hx;rw[get x hx];refine zb.t (zuL n.path n.pen (zP s i).1 32 ((yO s i).up dC)) ?_
 have e:zbv s i=(zb9 n.path n.pen (zP s i).1 32).1:=by
  unfold zbv;rw[en,if_neg (λk=>k.elim (λk=>k h2) λk=>h3 oM),if_neg (λk=>k h1)]
 rw[e];exact .refl
theorem zCa(s:Sc)(i:Int)(ht:yz s):CG0 13 [.agg (scE s),i64 i] [] (.sl zk (zie s i)) []:=by
 refine zc Tryz.func13 ?_;refine zb.t (znV s i ht) ?_;have nil:zie s i=[]->LE (.val (.slice none 0 0)) (.sl zk (zie s i)):=λh=>by rw[h];exact zD
 refine⟨λh=>nil ?_,λh1=>?_⟩
 ·unfold zie zbc;rw[if_pos (show(zP s i).2≠0 from h)];split <;> rfl
 have h1:(zP s i).2=0:=Xa.1 h1;have hin:=zhE h1;obtain⟨n,hn⟩:=zah hin;have hi:=(Xc.1 hn).1;have hi0:=hin.2;have en:=zez hin hn;have get:∀x,s.ns[i.toNat]? =some x->x=n:=λx hx=>Xj (hx.symm.trans hn)
 refine Ob.o ?_;intro x hx;rw[get x hx];refine⟨λh=>nil ?_,λh2=>?_⟩
 ·exact if_pos (by rw[en];exact h)
 have h2:n.k=3:=Xa.1 h2;refine Dr.k<|Ob.o ?_;intro x hx;rw[get x hx];refine Ob.o ?_;intro x hx;rw[get x hx];refine zb.t (zhV 0 0 n.im.w n.im.h)<|zb.t (zsY (vB 0 0 n.im.w n.im.h) (zP s i).1 32 ((yO s i).up dC)) ?_
 have e:zie s i=(zac (vB 0 0 n.im.w n.im.h) (zP s i).1 32).1:=by
  unfold zie zbc;rw[en,if_neg (λk=>k h2),if_neg (λk=>k h1)]
 rw[e];exact .refl
theorem l_geoPolygons(s:Sc)(i:Int):CG0 3 [.agg (scE s),i64 i] [] (bl true) []:=by
 refine zc Tryz.func3 ?_;refine zb.t (zx8 s)<|⟨λ_=>zb.to _ zmo rfl .refl,λh=>?_⟩;have ht:=zzP (Xa.1 h);refine Dr.k<|zb.t (ztd s i ht)<|zb.t (zzS s i ht)<|zb.t (zng (yN s i) (yN s i))<|⟨λ_=>?_,λk=>absurd rfl k⟩;refine zb.t (zzR s i ht)<|zb.t (zzT s i ht)<|zb.t (zng (zbv s i) (zbv s i))<|⟨λ_=>?_,λk=>absurd rfl k⟩;refine zb.t (zxY s i ht)<|zb.t (zCa s i ht)<|zb.t (zng (zie s i) (zie s i)) ?_
 refine⟨λ_=>?_,λk=>absurd rfl k⟩;exact zb.t zmo<|.refl
end Go.Gs
namespace Go.Gs
open Go.Proofs Go.RowKit
theorem laidOut:laidOutB Tryz.prog=true:=by kernel_rfl
theorem wf32{n:Int}(h:(Lit.int .u32 n).wf=true):0<=n/\n<=4294967295:=by
 simp only[Lit.wf,Xx,decide_eq_true_eq]at h;exact h
def shI:Sh:=.int .i64
def shB:Sh:=.int .u8
def zmp:Sh:=.st (.cons .bool (.cons (.sl (.int .u32)) .nil))
def zeW:Sh:=.st (.cons zmp (.cons zmp .nil))
def zuV:Sh:=.st (.cons zeW (.cons zeW (.cons zeW (.cons zeW (.cons zeW (.cons zeW .nil))))))
def zqq(n:Int):Dig:=dof n.toNat
def toBI(y:zmp.T):BI:=⟨y.1,List.map zqq y.2.1⟩
def zrI(y:zeW.T):BR:=⟨toBI y.1,toBI y.2.1⟩
def toAF(y:zuV.T):AF:=⟨zrI y.1,zrI y.2.1,zrI y.2.2.1,zrI y.2.2.2.1,zrI y.2.2.2.2.1,zrI y.2.2.2.2.2.1⟩
theorem zAs(y:zmp.T)(h:zmp.wf y):jq (zmp.enc y) (biE (toBI y)):=by
 refine .cons .refl (.cons ?_ .nil);refine LEd.sl zqq λn hn=>?_
 have h1:=wf32 (h.2.1 n hn)
 have e:((zqq n).val:Int)=n:=by
  unfold zqq;rw[kC];omega
 show jq [.val (.int .u32 n)] [.val (.int .u32 ((zqq n).val:Int))];rw[e];exact .refl
theorem zmq(y:zeW.T)(h:zeW.wf y):jq (zeW.enc y) (brE (zrI y)):=jq.append (zAs y.1 h.1) (jq.append (zAs y.2.1 h.2.1) .nil)
theorem zAt(y:zuV.T)(h:zuV.wf y):jq (zuV.enc y) (afE (toAF y)):=
 jq.append (zmq _ h.1) (jq.append (zmq _ h.2.1) (jq.append (zmq _ h.2.2.1) (jq.append (zmq _ h.2.2.2.1) (jq.append (zmq _ h.2.2.2.2.1) (by
  have:=jq.append (zmq _ h.2.2.2.2.2.1) .nil
  rwa [XE,XE]at this)))))
section
variable {H:Type} {enc:TypeId×Value->H} {W:World} {b0:Nat} {held:Bool}
end
end Go.Gs
namespace Go.Gs
open Go.Proofs Go.RowKit
def zuW:Sh:=.st (.cons shI (.cons shI .nil))
def zyb(y:zuW.T):Pt:=⟨y.1,y.2.1⟩
def shSg:Sh:=.st (.cons shI (.cons zuW (.cons zuW (.cons zuW .nil))))
def zuX(y:shSg.T):Sg:=⟨y.1,zyb y.2.1,zyb y.2.2.1,zyb y.2.2.2.1⟩
def toI(y:shI.T):Int:=y
def ztk:Sh:=.st (.cons shI (.cons shI (.cons shI (.cons shI (.cons (.sl shI) (.cons shI .nil))))))
def zyc(y:ztk.T):Pen:=⟨y.1,y.2.1,y.2.2.1,y.2.2.2.1,List.map toI y.2.2.2.2.1,y.2.2.2.2.2.1⟩
theorem zCb(y:ztk.T):jq (ztk.enc y) (ji (zyc y)):=.cons .refl (.cons .refl (.cons .refl (.cons .refl (.cons (LEd.sl toI λ_ _=>jq.refl) (.cons .refl .nil)))))
section
variable {H:Type} {enc:TypeId×Value->H} {W:World} {b0:Nat} {held:Bool}
end
end Go.Gs
namespace Go.Gs
open Go.Proofs Go.RowKit
def zyd:Sh:=.st (.cons shB (.cons shB (.cons shB (.cons shB .nil))))
def zuY(y:zyd.T):Pix:=⟨y.1,y.2.1,y.2.2.1,y.2.2.2.1⟩
def shSt:Sh:=.st (.cons shI (.cons zyd .nil))
def toSt(y:shSt.T):zks:=⟨y.1,zuY y.2.1⟩
def zye:Sh:=.st (.cons shI (.cons shI (.cons (.sl zyd) .nil)))
def zyf(y:zye.T):Img:=⟨y.1,y.2.1,List.map zuY y.2.2.1⟩
theorem im_le(y:zye.T):jq (zye.enc y) (zkp (zyf y)):=.cons .refl (.cons .refl (.cons (LEd.sl zuY λ_ _=>jq.refl) .nil))
def zuZ:Sh:=.st (.cons shI (.cons zyd (.cons zuW (.cons zuW (.cons shI (.cons (.sl shSt) (.cons shI (.cons zye (.cons shI (.cons zuV .nil))))))))))
def zqr(y:zuZ.T):Pnt:=⟨y.1,zuY y.2.1,zyb y.2.2.1,zyb y.2.2.2.1,y.2.2.2.2.1,List.map toSt y.2.2.2.2.2.1,y.2.2.2.2.2.2.1,zyf y.2.2.2.2.2.2.2.1,y.2.2.2.2.2.2.2.2.1,toAF y.2.2.2.2.2.2.2.2.2.1⟩
theorem zAu(y:zuZ.T)(h:zuZ.wf y):jq (zuZ.enc y) (u5 (zqr y)):=
 .cons .refl (.cons .refl (.cons .refl (.cons .refl (.cons .refl (.cons .refl (.cons .refl (.cons .refl (.cons .refl (.cons .refl (.cons (LEd.sl toSt λ_ _=>jq.refl) (.cons .refl
  (.cons .refl (.cons .refl (.cons (LEd.sl zuY λ_ _=>jq.refl) (.cons .refl (by
  have:=jq.append (zAt _ h.2.2.2.2.2.2.2.2.2.1) .nil
  rwa [XE,XE]at this))))))))))))))))
theorem jq.app2{us bs cs ds xs ys:List SV}(h:jq us bs)(k:jq cs ds)(e1:xs=us++cs)(e2:ys=bs++ds):jq xs ys:=by rw[e1,e2];exact jq.append h k
def shN3:Sh:=.cons (.sl zuZ) (.cons zye (.cons shI .nil))
theorem n3_le(y:shN3.T)(h:shN3.wf y):jq (shN3.enc y) (.sl u5 (List.map zqr y.1)::(zkp (zyf y.2.1)++[i64 y.2.2.1])):=
 .cons (LEd.sl zqr λx hx=>zAu x (h.1 x hx)) (jq.app2 (im_le y.2.1) (jq.refl (us:=[i64 y.2.2.1])) rfl rfl)
def zyg:Sh:=.cons (.sl shSg) (.cons shI (.cons shB (.cons shI (.cons .bool (.cons .bool (.cons (.sl shSg) (.cons shI (.cons (.sl zuZ) (.cons ztk shN3)))))))))
theorem n2_le(y:zyg.T)(h:zyg.wf y):jq (zyg.enc y) (.sl sgE (List.map zuX y.1)::i64 y.2.1::u8 y.2.2.1::i64 y.2.2.2.1::.pr (@Eq Bool y.2.2.2.2.1 true) (instDecidableEqBool y.2.2.2.2.1 true)::.pr (@Eq Bool y.2.2.2.2.2.1 true) (instDecidableEqBool y.2.2.2.2.2.1 true)::.sl sgE (List.map zuX y.2.2.2.2.2.2.1)::i64 y.2.2.2.2.2.2.2.1::
  .sl u5 (List.map zqr y.2.2.2.2.2.2.2.2.1)::(ji (zyc y.2.2.2.2.2.2.2.2.2.1)++(.sl u5 (List.map zqr y.2.2.2.2.2.2.2.2.2.2.1)::(zkp (zyf y.2.2.2.2.2.2.2.2.2.2.2.1)++[i64 y.2.2.2.2.2.2.2.2.2.2.2.2.1])))):=
 .cons (LEd.sl zuX λ_ _=>jq.refl) (.cons .refl (.cons .refl (.cons .refl (.cons .refl (.cons .refl (.cons (LEd.sl zuX λ_ _=>jq.refl) (.cons .refl (.cons (LEd.sl zqr λx hx=>zAu x (h.2.2.2.2.2.2.2.2.1 x hx))
  (jq.app2 (zCb y.2.2.2.2.2.2.2.2.2.1) (n3_le y.2.2.2.2.2.2.2.2.2.2 h.2.2.2.2.2.2.2.2.2.2) rfl rfl)))))))))
def zyh:Sh:=.st (.cons shI (.cons shI (.cons shI (.cons zuV zyg))))
def toNd2(i k d:Int)(t:AF)(y:zyg.T):Nd:=⟨i,k,d,t,List.map zuX y.1,y.2.1,y.2.2.1,y.2.2.2.1,y.2.2.2.2.1,y.2.2.2.2.2.1,List.map zuX y.2.2.2.2.2.2.1,y.2.2.2.2.2.2.2.1,List.map zqr y.2.2.2.2.2.2.2.2.1,zyc y.2.2.2.2.2.2.2.2.2.1,
 List.map zqr y.2.2.2.2.2.2.2.2.2.2.1,zyf y.2.2.2.2.2.2.2.2.2.2.2.1,y.2.2.2.2.2.2.2.2.2.2.2.2.1⟩
def toNd(y:zyh.T):Nd:=toNd2 y.1 y.2.1 y.2.2.1 (toAF y.2.2.2.1) y.2.2.2.2
theorem nd_le(y:zyh.T)(h:zyh.wf y):jq (zyh.enc y) (ndE (toNd y)):=
 .cons .refl (.cons .refl (.cons .refl (jq.app2 (zAt y.2.2.2.1 h.2.2.2.1) (n2_le y.2.2.2.2 h.2.2.2.2) rfl rfl)))
def zyi:Sh:=.st (.cons shI (.cons shI (.cons zyd (.cons (.sl zyh) .nil))))
def toSc(y:zyi.T):Sc:=⟨y.1,y.2.1,zuY y.2.2.1,List.map toNd y.2.2.2.1⟩
theorem sc_le(y:zyi.T)(h:zyi.wf y):jq (zyi.enc y) (scE (toSc y)):=
 .cons .refl (.cons .refl (.cons .refl (.cons .refl (.cons .refl (.cons .refl (.cons (LEd.sl toNd λx hx=>nd_le x (h.2.2.2.1 x hx)) .nil))))))
section
variable {H:Type} {enc:TypeId×Value->H} {W:World} {b0:Nat} {held:Bool}
theorem open_scene{v:Value}{d:DataW H}{p:List MemPlace}(hv:Value.okWide Tryz.prog W .any b0 26 v)(h:DataW.Trod enc Tryz.prog W 0 (λ_=>true) held 26 v d p):
  ∃s:Sc,True/\∀(S Pm:Nat->Prop) (ρ:zj),(∀b,¬S b)->G S Pm ρ W (.agg (scE s)) v:=by
 obtain⟨y,hy,g⟩:=zun zyi (by kernel_rfl) (by kernel_rfl) hv h;exact⟨toSc y,trivial,g _ (sc_le y hy)⟩
end
def laidL:List (String×DataW Unit):=[("errors.errorType",YtjgadnaphffpkaaGreatDoor.Rows.laid_errors_errorType)]
theorem zzU:Tryz.prog.globalNamed "errors.errorType" =some 0:=by kernel_rfl
theorem zzV:(Tryz.prog.cutTypes.find? (·.1== "internal/reflectlite.rtype")).map (·.2)=some 321:=by kernel_rfl
theorem zyj:((List.range 400).filter λt=>Tryz.prog.rowNamed t [101,114,114,111,114])=[231]:=by kernel_rfl
theorem zu0:Tryz.prog.types.size=400:=by kernel_rfl
theorem zCc:typeHandle Tryz.prog 231=.pointer (some ⟨3,231,none⟩):=by kernel_rfl
theorem handle_of_laid{W:World}(h:laidMetH Tryz.prog laidL W):∀g v,GL g v->W.cell? ⟨g,0,none⟩=some v:=by
 have h':laidMet Tryz.prog [] W/\handlesMet Tryz.prog laidL W:=h;obtain⟨name,u,ty,e1,e2,e3,e4,e5⟩:=h'.2 _ (Xr.2 rfl);have en:name=[101,114,114,111,114]:=(Xj e1).symm;subst en;obtain rfl:=Xj (zzV.symm.trans e2);have hm:ty∈(List.range 400).filter λt=>Tryz.prog.rowNamed t [101,114,114,111,114]:=List.mem_filter.2 ⟨Kh.2 (by rw[← zu0];exact e3),e4⟩
 rw[zyj]at hm;obtain rfl:=Xr.1 hm;rw[zCc]at e5;have e6:W.cell? ⟨0,0,none⟩=some (.iface 321 (.agg #[.pointer (some ⟨3,231,none⟩)])):=by simpa using World.var?_cell zzU e5 0
 intro g v hg
 cases hg with
 | head=>exact e6
 | tail _ h=>cases h
noncomputable def laidWorld (os:Os):World:=
 let w0:=World.holding Tryz.prog os ⟨#[],#[],[]⟩
 { w0 with heap:=w0.heap.modify 0 fun
   | .cells _ t frozen=>.cells #[.iface 321 (.agg #[.pointer (some ⟨3,231,none⟩)])] t frozen
   | o=>o }
theorem laidWorld_met(os:Os)(args:Array Value):laidMetH Tryz.prog laidL ((laidWorld os).forCall (λ_ _=>0) ⟨#[],args,[]⟩).memory:=
 laidMetH_of_parts (laidMet_nil _ _) (by kernel_rfl)
end Go.Gs
