/- Anchors of a node that is moved: plain. -/
import Derived.Test.YtplllpkdmehklaaGreatDoorMA
import Derived.Test.YtplllpkdmehklaaGreatDoorMBX
import Derived.Test.YtplllpkdmehklaaGreatDoorMAX
import Derived.Test.YtplllpkdmehklaaGreatDoorMBR
import Derived.Test.YtplllpkdmehklaaGreatDoorChecked
import Derived.Test.YtplllpkdmehklaaGreatDoorMBW
import Derived.Test.YtplllpkdmehklaaGreatDoorMBS
import Derived.LaidLaws
import Derived.LaidHandle
import Derived.Stop.Joined
import Derived.Test.YtplllpkdmehklaaGreatDoorRows
set_option maxRecDepth 100000
set_option maxHeartbeats 8000000
set_option linter.all false
namespace Go.Gs
abbrev shR(x y:Int)(rs:List (List Pt)):List (List Pt):=rs.map (List.map (sh x y))
theorem zpD(x y:Int)(rs:List (List Pt)):(shR x y rs).flatten=rs.flatten.map (sh x y):=by
 unfold shR
 induction rs with
 | nil=>rfl
 | cons r rs ih=>rw [List.map_cons,List.flatten_cons,ih,List.flatten_cons,List.map_append]
theorem zj8{x y:Int}{rs:List (List Pt)}(h1:kq rs)(h2:kq (shR x y rs)):u7 (shR x y rs)↔u7 rs:=by
 unfold u7;rw [zpD];constructor
 ·rintro ⟨a,_⟩;exact ⟨fun k=>a (by rw [k];rfl),h1⟩
 ·rintro ⟨a,_⟩;exact ⟨fun k=>a (List.map_eq_nil_iff.1 k),h2⟩
theorem zCt{x y:Int}{rs:List (List Pt)}(h1:kq rs)(h2:kq (shR x y rs))(h:u7 rs):loR (shR x y rs)=sh x y (loR rs)/\hiR (shR x y rs)=sh x y (hiR rs):=by
 have h':=(zj8 h1 h2).2 h;have b:=zBG (x:=x) (y:=y) h.1;unfold loR hiR;rw [if_pos h,if_pos h',if_pos h,if_pos h',zpD];exact b
def shO(x y:Int)(st:Option (Pt×Pt)):Option (Pt×Pt):=st.map fun p=>(sh x y p.1,sh x y p.2)
theorem zAi{x y:Int}{rs:List (List Pt)}(h1:kq rs)(h2:kq (shR x y rs))(st:Option (Pt×Pt)):uJ (shO x y st) (shR x y rs)=shO x y (uJ st rs):=by
 by_cases h:u7 rs
 ·have h':=(zj8 h1 h2).2 h;obtain ⟨e1,e2⟩:=zCt h1 h2 h;unfold uJ;rw [if_neg (show ¬¬u7 (shR x y rs) from fun k=>k h'),if_neg (show ¬¬u7 rs from fun k=>k h),e1,e2]
  cases st with
  | none=>show some _=some _;rw [zyl,zym]
  | some p=>show some _=some _;rw [zyl,zym]
 ·have h':¬u7 (shR x y rs):=fun k=>h ((zj8 h1 h2).1 k)
  unfold uJ;rw [if_pos (show ¬u7 (shR x y rs) from h'),if_pos (show ¬u7 rs from h)]
theorem zsT{x y:Int}:∀(L:List (List (List Pt))) (st:Option (Pt×Pt)),(∀l∈L,kq l/\kq (shR x y l))->(L.map (shR x y)).foldl uJ (shO x y st)=shO x y (L.foldl uJ st)
 | [],_,_=>rfl
 | l::L,st,h=>by
  show (L.map (shR x y)).foldl uJ (uJ (shO x y st) (shR x y l))=shO x y (L.foldl uJ (uJ st l));rw [zAi (h l (.head _)).1 (h l (.head _)).2];exact zsT L (uJ st l) fun q hq=>h q (.tail _ hq)
theorem zAj{x y:Int}{L:List (List (List Pt))}(h:∀l∈L,kq l/\kq (shR x y l)):zjW (L.map (shR x y))=shO x y (zjW L):=zsT L none h
theorem zgW{x y:Int}{a b:List (List Pt)}(hl:a.length=b.length)(h:a≠[]->b≠[]->b=shR x y a):b=shR x y a:=by
 cases a with
 | nil=>exact List.eq_nil_of_length_eq_zero hl.symm
 | cons r t=>
  refine h (fun k=>by cases k) fun k=>?_
  rw [k] at hl;cases hl
theorem zrb(p q:Pt)(hp:zn p)(hq:zn q):zn (mnP p q):=by unfold zn mnP at*;dsimp only;omega
theorem zrc(p q:Pt)(hp:zn p)(hq:zn q):zn (mxP p q):=by unfold zn mxP at*;dsimp only;omega
theorem zyB{rs:List (List Pt)}(h:u7 rs):zn (loR rs)/\zn (hiR rs):=by
 have hp:∀r∈rs.flatten,zn r:=fun p hp=>by
  obtain ⟨r,hr,hpr⟩:=List.mem_flatten.1 hp;exact h.2.2 r hr p hpr
 unfold loR hiR;rw [if_pos h,if_pos h];exact ⟨zwA zrb hp,zwA zrc hp⟩
theorem zlO:∀(L:List (List (List Pt))) (st:Option (Pt×Pt)),(∀p,st=some p->zn p.1/\zn p.2)->∀p,L.foldl uJ st=some p->zn p.1/\zn p.2
 | [],_,h=>h
 | l::L,st,h=>by
  refine zlO L (uJ st l) fun p hp=>?_
  unfold uJ at hp
  by_cases c:u7 l
  ·rw [if_neg (fun k=>k c)] at hp;obtain ⟨b1,b2⟩:=zyB c
   cases st with
   | none=>cases hp;exact ⟨zrb _ _ b1 b1,zrc _ _ b2 b2⟩
   | some q=>cases hp;exact ⟨zrb _ _ (h q rfl).1 b1,zrc _ _ (h q rfl).2 b2⟩
  ·rw [if_pos c] at hp;exact h p hp
theorem zsU{a b:Pt}{x y u:Int}(ha:zn a)(hb:zn b)(ha':zn (sh x y a))(hb':zn (sh x y b)):zaJ (sh x y a) (sh x y b) u 256=sh x y (zaJ a b u 256):=by
 unfold zaJ;rw [if_neg oM,if_neg oM,yF ha.1,yF ha.2,yF hb.1,yF hb.2,yF ha'.1,yF ha'.2,yF hb'.1,yF hb'.2];have e1:(sh x y b).x - (sh x y a).x=b.x - a.x:=by show b.x+x - (a.x+x)=_;omega
 have e2:(sh x y b).y - (sh x y a).y=b.y - a.y:=by show b.y+y - (a.y+y)=_;omega
 rw [e1,e2];exact zda (by show a.x+x+_=a.x+_+x;omega) (by show a.y+y+_=a.y+_+y;omega)
theorem zyC{st:Option (Pt×Pt)}{x y u v:Int}(h:∀p,st=some p->zn p.1/\zn p.2)(h':∀p,shO x y st=some p->zn p.1/\zn p.2)(hs:st.isSome=true):zpr (shO x y st) u v=sh x y (zpr st u v):=by
 cases st with
 | none=>cases hs
 | some p=>
  obtain ⟨a,b⟩:=p;have g:=h _ rfl;have g':=h' _ rfl;show (⟨(zaJ (sh x y a) (sh x y b) u 256).x,(zaJ (sh x y a) (sh x y b) v 256).y⟩:Pt)=_;rw [zsU g.1 g.2 g'.1 g'.2,zsU g.1 g.2 g'.1 g'.2];rfl
open Go.Proofs
theorem zyD{st:Option (Pt×Pt)}{u v:Int}(h:∀p,st=some p->zn p.1/\zn p.2):zn (zpr st u v):=by
 cases st with
 | none=>exact (by decide:zn zp)
 | some p=>
  obtain ⟨a,b⟩:=p;obtain ⟨ha,hb⟩:=h _ rfl;have h1:=zbB.2 (zr7 (n:=u) (d:=256) (zbB.1 ha) (zbB.1 hb) ha hb);have h2:=zbB.2 (zr7 (n:=v) (d:=256) (zbB.1 ha) (zbB.1 hb) ha hb);exact ⟨h1.1,h2.2⟩
theorem zpE(s:Sc)(k:Int):∀p,zjW (jV s k)=some p->zn p.1/\zn p.2:=zlO (jV s k) none fun p h=>by cases h
theorem zpF(s:Sc)(k:Int):∀l∈jV s k,qh l<=4096:=fun l hl=>by
 have:=(ze1 s k l hl).1;omega
theorem zuT {s s':Sc} {k x y:Int} (hx:kK s k≠[]->kK s' k≠[]->kK s' k=(kK s k).map (List.map (sh x y))) (hy:qz s k≠[]->qz s' k≠[]->qz s' k=(qz s k).map (List.map (sh x y)))
  (hz:yj s k≠[]->yj s' k≠[]->yj s' k=(yj s k).map (List.map (sh x y))) (h0:(kK s k).length=(kK s' k).length) (h1:(qz s k).length=(qz s' k).length) (h2:(yj s k).length=(yj s' k).length):
  zjW (jV s' k)=shO x y (zjW (jV s k)):=by
 have e:jV s' k=(jV s k).map (shR x y):=by
  unfold jV;rw [zgW h0 hx,zgW h1 hy,zgW h2 hz];rfl
 have hg:=ze1 s' k;rw [e] at hg ⊢;exact zAj fun l hl=>⟨ze1 s k l hl,hg _ (List.mem_map_of_mem hl)⟩
theorem l_geoAnchorTranslation(s:Sc)(i0 b0 b1 b2 b3:Int):zd Tryz.prog 5 [.agg (scE s),i64 i0,.agg [i64 b0,i64 b1,i64 b2,i64 b3]] [] (bl true) []:=by
 refine zc tok mix Tryz.func5 rfl rfl rfl ?_;refine zkb.data ?_;refine zb.t (zjZ s) ?_;refine Br.mk (fun _=>zb.to _ kD rfl .refl) (fun h=>?_);have hlt:=Decidable.not_not.1 h;have ht:=znc hlt;refine zb.t (zdB s ht.tame) ?_;refine Br.mk (fun _=>zb.to _ kD rfl .refl) (fun hv=>?_);have hv:=Decidable.not_not.1 hv;have hl64:=yV hv;have hl8:s.ns.length<=8:=by have:=hlt.1;omega
 intro hl0;refine Br.mk (fun _=>zb.to _ kD rfl .refl) (fun hne=>?_);have hne:¬(s.ns.length:Int)=0:=hne;refine Dr.d ?_;refine Ar.wrap ?_;intro hl1;refine Ar.o ?_;refine Dv.pos ⟨zj7 _,oM⟩ ?_;have ri:=Int.emod_nonneg (IntKind.u64.wrap i0) (show (s.ns.length:Int)≠0 by omega);have ri2:=Int.emod_lt_of_pos (IntKind.u64.wrap i0) (show 0 < (s.ns.length:Int) by omega);obtain ⟨q,hq⟩:∃q:Nat,IntKind.u64.wrap i0 % (s.ns.length:Int)=(q:Int):=⟨(IntKind.u64.wrap i0 % (s.ns.length:Int)).toNat,oM⟩;rw [hq] at ri ri2 ⊢;clear hq;refine Ar.o ?_
 obtain ⟨i,n,hi,hn,hnd⟩:=zyq (s:=s) (q:=q) ⟨hv,oM,oM⟩;have hil:=(List.getElem?_eq_some_iff.1 hn).1;have hal:=(List.getElem?_eq_some_iff.1 hi).1;refine zb.t (zxY s q ht.tame) ?_;refine Ob.o ?_;intro z hz;have hz:z=(i:Int):=Option.some.inj ((show (zm8 s q)[0]? =some z from hz).symm.trans hi);rw [hz];refine Ob.mk (by kernel_rfl) ?_;have m0:=near b0 100 dC;have m1:=near b1 100 dC;refine Dr.k ?_;refine Dv.any dC ?_;generalize b0.tmod 100=z0 at*;refine Ar.o ?_;refine Dv.any dC ?_;generalize b1.tmod 100=z1 at*;refine Ar.o ?_
 obtain ⟨x,ex⟩:∃x,256*z0=x:=⟨_,rfl⟩;obtain ⟨y,ey⟩:∃y,256*z1=y:=⟨_,rfl⟩;rw [ex,ey];have rx:R64 x:=by unfold R64;omega
 have ry:R64 y:=by unfold R64;omega
 have hp:zn ⟨x,y⟩:=by unfold zn;dsimp only;omega
 clear m0 m1;have lx:=qU rx;have ly:=qU ry;have hT:=zsL (ofQ (x:Rat)) (ofQ (y:Rat)) oM oM;rw [zV,zV] at hT;have hT:zd Tryz.prog 11 [.agg (brE (ofQ (x:Rat))),.agg (brE (ofQ (y:Rat)))] [] (.agg (afE (tr x y))) []:=hT;refine Dr.d ?_;refine Ob.o ?_;intro z hz;have hz:z=n:=Option.some.inj ((show s.ns[i]? =some z from hz).symm.trans hn);rw [hz];refine zb.t (qn x rx) ?_;refine zb.t (qn y ry) ?_;refine zb.t hT ?_
 have htr:(tr x y).le 100:=by
  have one:=qU (show R64 1 by decide);have zero:=qU (show R64 0 by decide);exact ⟨by show (ofQ _).len<=_;omega,by show (ofQ _).len<=_;omega,by show (ofQ _).len<=_;omega,by show (ofQ _).len<=_;omega,by show (ofQ _).len<=_;omega,by show (ofQ _).len<=_;omega⟩
 have hnf:=ht hl64 n (List.mem_of_getElem? hn);refine ⟨AF,afE,[n.t,tr x y],rfl,Ob.o0 ?_⟩;refine zb.see 1 _ (zcm [n.t,tr x y] fun z hz=>?_) rfl rfl rfl ?_
 ·rcases List.mem_cons.1 hz with rfl | hz
  ·exact hnf.1
  ·rw [List.mem_singleton.1 hz];exact htr
 refine Ob.mk (by kernel_rfl) ?_;refine zb.fresh _ _ (zpu s oM fun m hm=>hlt.2 m (by rw [List.take_of_length_le oM];exact hm)) rfl (fun _ _=>rfl) (.inl rfl) ?_;obtain ⟨t,ht0⟩:∃t,(qt [n.t,tr x y]).1=t:=⟨_,rfl⟩;have htl:t.le 100:=by rw [← ht0];exact zf4
 have hts:(qt [n.t,tr x y]).2=0->t.same (beh n.t (tr x y)):=fun h=>by rw [← ht0];exact zj6 h
 rw [ht0];clear ht0;refine Ob.o ?_;refine Ob.o ?_;intro z hz;have hz:z=n:=Option.some.inj ((show s.ns[i]? =some z from hz).symm.trans hn);rw [hz];refine ⟨setT n t,rfl,?_⟩;refine Br.mk (fun _=>zb.to _ kD rfl .refl) (fun e=>?_);have e:=hts (Decidable.not_not.1 e);have htm:=st_le ht hn htl;refine zb.t (zdB (mvS s i n t) htm.tame) ?_;refine Br.mk (fun _=>zb.to _ kD rfl .refl) (fun hv'=>?_);have hv':=Decidable.not_not.1 hv';obtain ⟨_,fI⟩:=zyr hn hnd hv hv' e hil;have ee:zf9 s i=(zgR (zA s.ns) i:Int):=if_pos ⟨hv,oM,oM⟩
 have hin:¬((i:Int) < (i:Int)∨zf9 s i<=(i:Int)):=fun k=>by
  have hdl:(zA s.ns).length=s.ns.length:=by unfold zA;rw [List.length_map]
  have:=(zgQ (zA s.ns) ((zA s.ns).getD i 0) ((zA s.ns).length - (i+1)) (i+1) oM oM).1;rw [ee] at k;unfold zgR at k;omega
 obtain ⟨f0,f1,f2,_⟩:=fI hin;have mvd:=fun l0 l1 l2=>zuT f0 f1 f2 l0 l1 l2
 have c1:=l_all s i ht;have c2:=zCp (mvS s i n t) i htm;unfold allE at c1 c2;refine Dr.d ?_;refine zb.t c1 ?_;refine zb.give [3] 0 [.agg (scO (mvS s i n t) 0),i64 (i:Int)] [(0,qQ (mvS s i n t).ns)] [(0,qQ (mvS s i n t).ns)] _ c2 LEs.refl rfl rfl rfl ⟨⟨_,rfl,rfl,trivial⟩,trivial⟩ rfl ⟨⟨rfl,trivial⟩,trivial⟩ ?_;refine Ob.mk (by kernel_rfl) ?_;generalize hA0:kK s i=a0 at*;generalize hA1:qz s i=a1 at*;generalize hA2:yj s i=a2 at*;generalize jR s i=a3 at*;generalize hD0:kK (mvS s i n t) i=d0 at*;generalize hD1:qz (mvS s i n t) i=d1 at*
 generalize hD2:yj (mvS s i n t) i=d2 at*;generalize jR (mvS s i n t) i=d3 at*
 refine ⟨Nat,fun m=>⟨[(92,i64 (m:Int)),(1,i64 (i:Int)),(7,i64 x),(8,i64 y),(3,.loc 0 0),(5,.dptr [i64 b0,i64 b1,i64 b2,i64 b3]),(11,.loc 1 0),(12,.loc 2 0),(13,.loc 3 0)],
  [(3,.box 57 (lsE d0 d1 d2 d3)),(2,.box 57 (lsE a0 a1 a2 a3)),(1,.box 26 (scE (mvS s i n t))),(0,.box 26 (scE s))],4,154,0⟩,
  fun m=>m<=3/\(1<=m->a0.length=d0.length)/\(2<=m->a1.length=d1.length)/\(3<=m->a2.length=d2.length),fun m=>3 - m,0,⟨Nat.zero_le _,fun h=>absurd h dC,fun h=>absurd h dC,fun h=>absurd h dC⟩,?_,?_⟩
 ·exact (zpy 3 4 (enc:=ndE) (ys:=(mvS s i n t).ns) (cs:=scO (mvS s i n t) 3) (cs':=scE (mvS s i n t)) rfl rfl rfl (znd (row:=scO (mvS s i n t) 3) (c:=6) (k:=3) rfl)).trans
   (zf [(0,some 0),(1,some 4),(2,some 5),(3,some 6)])
 rintro m ⟨hm,q0,q1,q2⟩
 have hm4:m=0∨m=1∨m=2∨m=3:=oM
 rcases hm4 with rfl | rfl | rfl | rfl
 ·refine Br.y ?_;refine Dr.d ?_;intro hl3;intro hl4;refine Ob.mk (by kernel_rfl) ?_;refine Br.mk (fun _=>zb.to _ kD rfl .refl) (fun g=>?_);have g:a0.length=d0.length:=by have g:¬¬(a0.length:Int)=(d0.length:Int):=g;omega
  refine Ar.fit dC ?_;exact ⟨0+1,⟨dC,fun _=>g,fun h=>absurd h dC,fun h=>absurd h dC⟩,zf [(0,some 0),(1,some 1),(2,some 2),(3,some 3)],dC⟩
 ·refine Br.y ?_;refine Dr.d ?_;intro hl3;intro hl4;refine Ob.mk (by kernel_rfl) ?_;refine Br.mk (fun _=>zb.to _ kD rfl .refl) (fun g=>?_);have g:a1.length=d1.length:=by have g:¬¬(a1.length:Int)=(d1.length:Int):=g;omega
  refine Ar.fit dC ?_;exact ⟨1+1,⟨dC,fun _=>q0 dC,fun _=>g,fun h=>absurd h dC⟩,zf [(0,some 0),(1,some 1),(2,some 2),(3,some 3)],dC⟩
 ·refine Br.y ?_;refine Dr.d ?_;intro hl3;intro hl4;refine Ob.mk (by kernel_rfl) ?_;refine Br.mk (fun _=>zb.to _ kD rfl .refl) (fun g=>?_);have g:a2.length=d2.length:=by have g:¬¬(a2.length:Int)=(d2.length:Int):=g;omega
  refine Ar.fit dC ?_;exact ⟨2+1,⟨dC,fun _=>q0 dC,fun _=>q1 dC,fun _=>g⟩,zf [(0,some 0),(1,some 1),(2,some 2),(3,some 3)],dC⟩
 ·refine Br.mk (fun k=>absurd k dC) (fun _=>?_);have hmv:=mvd (q0 dC) (q1 dC) (q2 dC);have g1:=zpE s i;have g2:=zpE (mvS s i n t) i;have w1:=zgM s i b2 b3 ht (zne s i ht) (zpF s i);have w2:=zgM (mvS s i n t) i b2 b3 htm (zne (mvS s i n t) i htm) (zpF (mvS s i n t) i);unfold ancE at w1 w2;rw [hmv] at g2 w2;refine zb.t w1 ?_;refine zb.t w2 ?_;have k1:=zyD (u:=b2) (v:=b3) g1;have k2:=fun h=>zyC (u:=b2) (v:=b3) g1 g2 h
  generalize zjW (jV s i)=A at*;have hs:(shO x y A).isSome=A.isSome:=by cases A <;> rfl
  have hpx:=hp.1;have hpy:=hp.2;refine Br.mk (fun _=>?_) (fun k=>absurd (by rw [hs]) k);refine Br.mk (fun c=>?_) (fun c=>?_)
  ·exact zb.to _ kD rfl .refl
  have c:A.isSome=true:=Decidable.not_not.1 c;have k2:=k2 c;rw [k2];have kx:=k1.1;have ky:=k1.2;refine Ar.fit (by dsimp only at hpx;omega) ?_;refine Br.mk (fun _=>?_) (fun k=>absurd rfl k);refine Ar.fit (by dsimp only at hpy;omega) ?_;refine Br.mk (fun _=>zb.to _ kD rfl .refl) (fun k=>absurd rfl k)
end Go.Gs
namespace Go.Gs
open Go.Proofs Go.RowKit
theorem laidOut:laidOutB Tryz.prog=true:=by kernel_rfl
theorem wfi{n:Int}(h:(Lit.int .i64 n).wf=true):R64 n:=r64 h
theorem wf32{n:Int}(h:(Lit.int .u32 n).wf=true):0<=n/\n<=4294967295:=by
 simp only [Lit.wf,Bool.and_eq_true,decide_eq_true_eq] at h;exact h
def shI:Sh:=.int .i64
def shB:Sh:=.int .u8
def zlM:Sh:=.st (.cons .bool (.cons (.sl (.int .u32)) .nil))
def zex:Sh:=.st (.cons zlM (.cons zlM .nil))
def zuN:Sh:=.st (.cons zex (.cons zex (.cons zex (.cons zex (.cons zex (.cons zex .nil))))))
def zpB(n:Int):Dig:=dof n.toNat
def toBI(y:zlM.T):BI:=⟨y.1,List.map zpB y.2.1⟩
def zra(y:zex.T):BR:=⟨toBI y.1,toBI y.2.1⟩
def toAF(y:zuN.T):AF:=⟨zra y.1,zra y.2.1,zra y.2.2.1,zra y.2.2.2.1,zra y.2.2.2.2.1,zra y.2.2.2.2.2.1⟩
theorem zAR(y:zlM.T)(h:zlM.wf y):qX (zlM.enc y) (biE (toBI y)):=by
 refine .cons .refl (.cons ?_ .nil);refine LEd.sl zpB fun n hn=>?_
 have h1:=wf32 (h.2.1 n hn)
 have e:((zpB n).val:Int)=n:=by
  unfold zpB;rw [ki];omega
 show qX [.val (.int .u32 n)] [.val (.int .u32 ((zpB n).val:Int))];rw [e];exact .refl
theorem zlN(y:zex.T)(h:zex.wf y):qX (zex.enc y) (brE (zra y)):=qX.append (zAR y.1 h.1) (qX.append (zAR y.2.1 h.2.1) .nil)
theorem zAS(y:zuN.T)(h:zuN.wf y):qX (zuN.enc y) (afE (toAF y)):=
 qX.append (zlN _ h.1) (qX.append (zlN _ h.2.1) (qX.append (zlN _ h.2.2.1) (qX.append (zlN _ h.2.2.2.1) (qX.append (zlN _ h.2.2.2.2.1) (by
  have:=qX.append (zlN _ h.2.2.2.2.2.1) .nil
  rwa [List.append_nil,List.append_nil] at this)))))
section
variable {H:Type} {enc:TypeId×Value->H} {W:World} {b0:Nat} {held:Bool}
end
end Go.Gs
namespace Go.Gs
open Go.Proofs Go.RowKit
def zuO:Sh:=.st (.cons shI (.cons shI .nil))
def zys(y:zuO.T):Pt:=⟨y.1,y.2.1⟩
def shSg:Sh:=.st (.cons shI (.cons zuO (.cons zuO (.cons zuO .nil))))
def zuP(y:shSg.T):Sg:=⟨y.1,zys y.2.1,zys y.2.2.1,zys y.2.2.2.1⟩
def toI(y:shI.T):Int:=y
def zsS:Sh:=.st (.cons shI (.cons shI (.cons shI (.cons shI (.cons (.sl shI) (.cons shI .nil))))))
def zyt(y:zsS.T):Pen:=⟨y.1,y.2.1,y.2.2.1,y.2.2.2.1,List.map toI y.2.2.2.2.1,y.2.2.2.2.2.1⟩
theorem zCr(y:zsS.T):qX (zsS.enc y) (ue (zyt y)):=.cons .refl (.cons .refl (.cons .refl (.cons .refl (.cons (LEd.sl toI fun _ _=>qX.refl) (.cons .refl .nil)))))
section
variable {H:Type} {enc:TypeId×Value->H} {W:World} {b0:Nat} {held:Bool}
def shI4:Sh:=.ar (.cons shI (.cons shI (.cons shI (.cons shI .nil))))
theorem open_int4{v:Value}{d:DataW H}{p:List MemPlace}(hv:Value.okWide Tryz.prog W .any b0 70 v)(h:DataW.Trod enc Tryz.prog W 0 (fun _=>true) held 70 v d p):
  ∃s:Int×Int×Int×Int,(R64 s.1/\R64 s.2.1/\R64 s.2.2.1/\R64 s.2.2.2)/\∀(S Pm:Nat->Prop) (ρ:zi),(∀b,¬S b)->G S Pm ρ W (.agg [i64 s.1,i64 s.2.1,i64 s.2.2.1,i64 s.2.2.2]) v:=by
 obtain ⟨y,hy,g⟩:=zgF shI4 (by kernel_rfl) (by kernel_rfl) hv h;exact ⟨(y.1,y.2.1,y.2.2.1,y.2.2.2.1),⟨wfi hy.1,wfi hy.2.1,wfi hy.2.2.1,wfi hy.2.2.2.1⟩,g _ qX.refl⟩
end
end Go.Gs
namespace Go.Gs
open Go.Proofs Go.RowKit
def zyu:Sh:=.st (.cons shB (.cons shB (.cons shB (.cons shB .nil))))
def zuQ(y:zyu.T):Pix:=⟨y.1,y.2.1,y.2.2.1,y.2.2.2.1⟩
def shSt:Sh:=.st (.cons shI (.cons zyu .nil))
def toSt(y:shSt.T):zgI:=⟨y.1,zuQ y.2.1⟩
def zyv:Sh:=.st (.cons shI (.cons shI (.cons (.sl zyu) .nil)))
def zyw(y:zyv.T):Img:=⟨y.1,y.2.1,List.map zuQ y.2.2.1⟩
theorem im_le(y:zyv.T):qX (zyv.enc y) (zjB (zyw y)):=.cons .refl (.cons .refl (.cons (LEd.sl zuQ fun _ _=>qX.refl) .nil))
def zuR:Sh:=.st (.cons shI (.cons zyu (.cons zuO (.cons zuO (.cons shI (.cons (.sl shSt) (.cons shI (.cons zyv (.cons shI (.cons zuN .nil))))))))))
def zpC(y:zuR.T):Pnt:=⟨y.1,zuQ y.2.1,zys y.2.2.1,zys y.2.2.2.1,y.2.2.2.2.1,List.map toSt y.2.2.2.2.2.1,y.2.2.2.2.2.2.1,zyw y.2.2.2.2.2.2.2.1,y.2.2.2.2.2.2.2.2.1,toAF y.2.2.2.2.2.2.2.2.2.1⟩
theorem zAT(y:zuR.T)(h:zuR.wf y):qX (zuR.enc y) (jb (zpC y)):=
 .cons .refl (.cons .refl (.cons .refl (.cons .refl (.cons .refl (.cons .refl (.cons .refl (.cons .refl (.cons .refl (.cons .refl (.cons (LEd.sl toSt fun _ _=>qX.refl) (.cons .refl
  (.cons .refl (.cons .refl (.cons (LEd.sl zuQ fun _ _=>qX.refl) (.cons .refl (by
  have:=qX.append (zAS _ h.2.2.2.2.2.2.2.2.2.1) .nil
  rwa [List.append_nil,List.append_nil] at this))))))))))))))))
theorem qX.app2{us bs cs ds xs ys:List SV}(h:qX us bs)(k:qX cs ds)(e1:xs=us++cs)(e2:ys=bs++ds):qX xs ys:=by rw [e1,e2];exact qX.append h k
def shN3:Sh:=.cons (.sl zuR) (.cons zyv (.cons shI .nil))
theorem n3_le(y:shN3.T)(h:shN3.wf y):qX (shN3.enc y) (.sl jb (List.map zpC y.1)::(zjB (zyw y.2.1)++[i64 y.2.2.1])):=
 .cons (LEd.sl zpC fun x hx=>zAT x (h.1 x hx)) (qX.app2 (im_le y.2.1) (qX.refl (us:=[i64 y.2.2.1])) rfl rfl)
def zyx:Sh:=.cons (.sl shSg) (.cons shI (.cons shB (.cons shI (.cons .bool (.cons .bool (.cons (.sl shSg) (.cons shI (.cons (.sl zuR) (.cons zsS shN3)))))))))
theorem n2_le(y:zyx.T)(h:zyx.wf y):qX (zyx.enc y) (.sl sgE (List.map zuP y.1)::i64 y.2.1::u8 y.2.2.1::i64 y.2.2.2.1::.pr (@Eq Bool y.2.2.2.2.1 true) (instDecidableEqBool y.2.2.2.2.1 true)::.pr (@Eq Bool y.2.2.2.2.2.1 true) (instDecidableEqBool y.2.2.2.2.2.1 true)::.sl sgE (List.map zuP y.2.2.2.2.2.2.1)::i64 y.2.2.2.2.2.2.2.1::
  .sl jb (List.map zpC y.2.2.2.2.2.2.2.2.1)::(ue (zyt y.2.2.2.2.2.2.2.2.2.1)++(.sl jb (List.map zpC y.2.2.2.2.2.2.2.2.2.2.1)::(zjB (zyw y.2.2.2.2.2.2.2.2.2.2.2.1)++[i64 y.2.2.2.2.2.2.2.2.2.2.2.2.1])))):=
 .cons (LEd.sl zuP fun _ _=>qX.refl) (.cons .refl (.cons .refl (.cons .refl (.cons .refl (.cons .refl (.cons (LEd.sl zuP fun _ _=>qX.refl) (.cons .refl (.cons (LEd.sl zpC fun x hx=>zAT x (h.2.2.2.2.2.2.2.2.1 x hx))
  (qX.app2 (zCr y.2.2.2.2.2.2.2.2.2.1) (n3_le y.2.2.2.2.2.2.2.2.2.2 h.2.2.2.2.2.2.2.2.2.2) rfl rfl)))))))))
def zyy:Sh:=.st (.cons shI (.cons shI (.cons shI (.cons zuN zyx))))
def toNd2(i k d:Int)(t:AF)(y:zyx.T):Nd:=⟨i,k,d,t,List.map zuP y.1,y.2.1,y.2.2.1,y.2.2.2.1,y.2.2.2.2.1,y.2.2.2.2.2.1,List.map zuP y.2.2.2.2.2.2.1,y.2.2.2.2.2.2.2.1,List.map zpC y.2.2.2.2.2.2.2.2.1,zyt y.2.2.2.2.2.2.2.2.2.1,
 List.map zpC y.2.2.2.2.2.2.2.2.2.2.1,zyw y.2.2.2.2.2.2.2.2.2.2.2.1,y.2.2.2.2.2.2.2.2.2.2.2.2.1⟩
def toNd(y:zyy.T):Nd:=toNd2 y.1 y.2.1 y.2.2.1 (toAF y.2.2.2.1) y.2.2.2.2
theorem nd_le(y:zyy.T)(h:zyy.wf y):qX (zyy.enc y) (ndE (toNd y)):=
 .cons .refl (.cons .refl (.cons .refl (qX.app2 (zAS y.2.2.2.1 h.2.2.2.1) (n2_le y.2.2.2.2 h.2.2.2.2) rfl rfl)))
def zyz:Sh:=.st (.cons shI (.cons shI (.cons zyu (.cons (.sl zyy) .nil))))
def toSc(y:zyz.T):Sc:=⟨y.1,y.2.1,zuQ y.2.2.1,List.map toNd y.2.2.2.1⟩
theorem sc_le(y:zyz.T)(h:zyz.wf y):qX (zyz.enc y) (scE (toSc y)):=
 .cons .refl (.cons .refl (.cons .refl (.cons .refl (.cons .refl (.cons .refl (.cons (LEd.sl toNd fun x hx=>nd_le x (h.2.2.2.1 x hx)) .nil))))))
section
variable {H:Type} {enc:TypeId×Value->H} {W:World} {b0:Nat} {held:Bool}
theorem open_scene{v:Value}{d:DataW H}{p:List MemPlace}(hv:Value.okWide Tryz.prog W .any b0 26 v)(h:DataW.Trod enc Tryz.prog W 0 (fun _=>true) held 26 v d p):
  ∃s:Sc,True/\∀(S Pm:Nat->Prop) (ρ:zi),(∀b,¬S b)->G S Pm ρ W (.agg (scE s)) v:=by
 obtain ⟨y,hy,g⟩:=zgF zyz (by kernel_rfl) (by kernel_rfl) hv h;exact ⟨toSc y,trivial,g _ (sc_le y hy)⟩
end
def laidL:List (String×DataW Unit):=[("errors.errorType",YtplllpkdmehklaaGreatDoor.Rows.laid_errors_errorType)]
theorem zAg:Tryz.prog.globalNamed "errors.errorType" =some 0:=by kernel_rfl
theorem zAh:(Tryz.prog.cutTypes.find? (·.1== "internal/reflectlite.rtype")).map (·.2)=some 291:=by kernel_rfl
theorem zyA:((List.range 388).filter fun t=>Tryz.prog.rowNamed t [101,114,114,111,114])=[194]:=by kernel_rfl
theorem zuS:Tryz.prog.types.size=388:=by kernel_rfl
theorem zCs:typeHandle Tryz.prog 194=.pointer (some ⟨3,194,none⟩):=by kernel_rfl
theorem handle_of_laid{W:World}(h:laidMetH Tryz.prog laidL W):∀g v,GL g v->W.cell? ⟨g,0,none⟩=some v:=by
 have h':laidMet Tryz.prog [] W/\handlesMet Tryz.prog laidL W:=h;obtain ⟨name,u,ty,e1,e2,e3,e4,e5⟩:=h'.2 _ (List.mem_singleton.2 rfl);have en:name=[101,114,114,111,114]:=(Option.some.inj e1).symm;subst en;obtain rfl:=Option.some.inj (zAh.symm.trans e2);have hm:ty∈(List.range 388).filter fun t=>Tryz.prog.rowNamed t [101,114,114,111,114]:=List.mem_filter.2 ⟨List.mem_range.2 (by rw [← zuS];exact e3),e4⟩
 rw [zyA] at hm;obtain rfl:=List.mem_singleton.1 hm;rw [zCs] at e5;have e6:W.cell? ⟨0,0,none⟩=some (.iface 291 (.agg #[.pointer (some ⟨3,194,none⟩)])):=by simpa using World.var?_cell zAg e5 0
 intro g v hg
 cases hg with
 | head=>exact e6
 | tail _ h=>cases h
noncomputable def laidWorld (os:Os):World:=
 let w0:=World.holding Tryz.prog os ⟨#[],#[],[]⟩
 { w0 with heap:=w0.heap.modify 0 fun
   | .cells _ t frozen=>.cells #[.iface 291 (.agg #[.pointer (some ⟨3,194,none⟩)])] t frozen
   | o=>o }
theorem laidWorld_met(os:Os)(args:Array Value):laidMetH Tryz.prog laidL ((laidWorld os).forCall (fun _ _=>0) ⟨#[],args,[]⟩).memory:=
 laidMetH_of_parts (laidMet_nil _ _) (by kernel_rfl)
end Go.Gs
