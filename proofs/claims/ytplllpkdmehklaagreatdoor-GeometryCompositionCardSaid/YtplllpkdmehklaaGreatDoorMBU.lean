/- Scenes, the program's text: Check, Valid, Parent. -/
import Derived.Test.YtplllpkdmehklaaGreatDoorMA
import Derived.Test.YtplllpkdmehklaaGreatDoorMBT
import Derived.Test.YtplllpkdmehklaaGreatDoorMBP
set_option maxRecDepth 100000
set_option maxHeartbeats 8000000
set_option linter.all false
namespace Go.Gs
open Go.Proofs
def mdN(l:List Nd):Nat->Int
 | 0=>0
 | i+1=>match l[i]? with
  | some n=>if n.k=1 then n.d+1 else n.d
  | none=>0
def zcA(s:Sc):Prop:=s.ns.length<=64->∀n∈s.ns,zjG n
theorem zq2{l:List Nd}{i:Nat}{n:Nd}(h:l[i]? =some n)(h0:0<=n.d):jq l i n↔¬mdN l i < n.d:=by
 cases i with
 | zero=>
  unfold jq mdN;rw [show l[0 - 1]? =some n from h];show n.d=0↔¬0 < n.d;omega
 | succ i=>
  obtain ⟨p,hp⟩:∃p,l[i]? =some p:=⟨_,List.getElem?_eq_getElem (by have:=(List.getElem?_eq_some_iff.1 h).1;omega)⟩;have hs:jq l (i+1) n=(if i+1=0 then n.d=0 else (p.k=1/\n.d=p.d+1)∨n.d<=p.d):=by unfold jq;rw [show l[i+1 - 1]? =some p from hp]
  have hm:mdN l (i+1)=if p.k=1 then p.d+1 else p.d:=by
   show (match l[i]? with | some n=>if n.k=1 then n.d+1 else n.d | none=>0)=_;rw [hp]
  rw [hs,hm,if_neg (Nat.succ_ne_zero i)]
  split <;> omega
def zuv(r:Int×Int):SV:=.tup [i64 r.1,i64 r.2]
theorem vS{s:Sc}(h:zew s):LE (.tup [i64 6,i64 0]) (zuv (zhz s)):=by rw [zhz,if_pos h];exact .refl
theorem zlC{s:Sc}(h1:¬zew s)(h2:64 < s.ns.length):LE (.tup [i64 5,i64 64]) (zuv (zhz s)):=by rw [zhz,if_neg h1,if_pos h2];exact .refl
theorem zhV{s:Sc}{i:Nat}{x:Nd}{e:Int}(h1:¬zew s)(h2:¬64 < s.ns.length)(hx:s.ns[i]? =some x)(hz:∀j,j < i->uj s.ns j=0)(he:zf2 s.ns i x=e)(h0:e≠0):LE (.tup [i64 e,i64 (i:Int)]) (zuv (zhz s)):=by
 have ee:=zcq hx;rw [he] at ee;rw [zhz,if_neg h1,if_neg h2,zzZ (List.getElem?_eq_some_iff.1 hx).1 hz (by rw [ee];exact h0)];show LE _ (.tup [i64 (uj s.ns i),i64 (i:Int)]);rw [ee];exact .refl
theorem zsy{s:Sc}(h1:¬zew s)(h2:¬64 < s.ns.length)(hz:∀j,j < s.ns.length->uj s.ns j=0):LE (.tup [i64 0,i64 0]) (zuv (zhz s)):=by
 rw [zhz,if_neg h1,if_neg h2,zus hz];exact .refl
theorem zxN{l:List Nd}{i:Nat}{x:Nd}(h:l[i]? =some x):(l.take (i+1)).map Nd.id=(l.take i).map Nd.id++[x.id]:=by
 rw [List.take_add_one,h,List.map_append];rfl
theorem zpi{l:List Nd}{i:Nat}{x:Nd}(h:¬yI x=0):zf2 l i x=yI x:=if_pos h
theorem zpj{l:List Nd}{i:Nat}{x:Nd}(h:yI x=0)(k:x.id∈(l.take i).map Nd.id):zf2 l i x=7:=by unfold zf2;rw [if_neg (fun q=>q h),if_pos k]
theorem zjP{l:List Nd}{i:Nat}{x:Nd}(h:yI x=0)(k:x.id∉(l.take i).map Nd.id)(d:¬jq l i x):zf2 l i x=17:=by unfold zf2;rw [if_neg (fun q=>q h),if_neg k,if_pos d]
theorem zsz{l:List Nd}{i:Nat}{x:Nd}(h:yI x=0)(k:x.id∉(l.take i).map Nd.id)(d:jq l i x):zf2 l i x=0:=by unfold zf2;rw [if_neg (fun q=>q h),if_neg k,if_neg (fun q=>q d)]
theorem zlD{l:List Nd}{i:Nat}{x:Nd}(hx:l[i]? =some x)(hz:∀j,j < i->uj l j=0)(he:zf2 l i x=0):∀j,j < i+1->uj l j=0:=fun j hj=>by
 by_cases c:j=i
 ·rw [c,zcq hx,he]
 ·exact hz j oM
theorem zz0(s:Sc)(ht:zcA s):zd Tryz.prog 74 [.agg (scE s)] [] (zuv (zhz s)) []:=by
 refine zc tok mix Tryz.func74 rfl rfl rfl ?_;refine Br.mk (fun h=>vS (.inl h)) (fun h1=>?_);refine Br.mk (fun h=>vS (.inr (.inl h))) (fun h2=>?_);refine Br.mk (fun h=>vS (.inr (.inr (.inl h)))) (fun h3=>?_);refine Br.mk (fun h=>vS (.inr (.inr (.inr h)))) (fun h4=>?_);have hb:¬zew s:=fun k=>k.elim h1 fun k=>k.elim h2 fun k=>k.elim h3 h4
 intro hl0;refine Br.mk (fun h=>zlC hb oM) (fun h5=>?_);have hn:¬64 < s.ns.length:=oM;have ht:=ht oM;intro hl1
 refine ⟨Nat,fun i=>⟨[(35,i64 (i:Int)),(34,i64 (s.ns.length:Int)),(33,.sl ndE s.ns),(5,i64 (mdN s.ns i)),(4,.own 1),(1,.loc 0 0)],
  [(1,.map (zm5 ((s.ns.take i).map Nd.id))),(0,.box 26 (scE s))],2,67,0⟩,fun i=>i<=s.ns.length/\∀j,j < i->uj s.ns j=0,fun i=>s.ns.length - i,0,⟨Nat.zero_le _,fun j h=>by omega⟩,?_,?_⟩
 ·exact zf [(0,some 0),(1,some 1)]
 rintro i ⟨hi,hz⟩
 refine Br.mk (fun g=>?_) (fun g=>?_)
 ·have g:(i:Int) < s.ns.length:=g;refine Ob.o ?_;intro x hx;have hx:s.ns[i]? =some x:=hx;have hm:=List.mem_of_getElem? hx;refine zb.t (zzY x (ht x hm)) ?_;refine Br.mk (fun h=>zhV hb hn hx hz (zpi h) h) (fun h6=>?_);have h6:yI x=0:=Decidable.not_not.1 h6;refine zuu (n:=x.id) (ks:=(s.ns.take i).map Nd.id) (fun _ _ _ a b=>Br.mk a b) (fun h=>?_) (fun h7=>?_)
  ·exact zhV hb hn hx hz (zpj h6 h) dC
  have hs:=zq2 hx (zdA h6).2.1.1;have hd:=(zdA h6).2.1;refine Br.mk (fun h=>zhV hb hn hx hz (zjP h6 h7 (fun q=>hs.1 q h)) dC) (fun h8=>?_);have hz':=zlD hx hz (zsz h6 h7 (hs.2 h8));refine zph h7 ?_;have em:zm5 ((s.ns.take i).map Nd.id++[x.id])=zm5 ((s.ns.take (i+1)).map Nd.id):=by rw [zxN hx]
  refine Br.mk (fun h9=>?_) (fun h9=>?_)
  ·have e5:x.d+1=mdN s.ns (i+1):=by show _=(match s.ns[i]? with | some n=>if n.k=1 then n.d+1 else n.d | none=>0);rw [hx];exact (if_pos h9).symm
   (iterate 2 refine Ar.o ?_);exact ⟨i+1,⟨oM,hz'⟩,z9 [(0,some 0),(1,some 1)] ⟨rfl,rfl,rfl,congrArg (fun q=>some (i64 q)) e5,rfl,rfl,trivial⟩ ⟨congrArg (fun q=>some (Mem.map q)) em,rfl,trivial⟩,by dsimp only;omega⟩
  ·have e5:x.d=mdN s.ns (i+1):=by show _=(match s.ns[i]? with | some n=>if n.k=1 then n.d+1 else n.d | none=>0);rw [hx];exact (if_neg h9).symm
   refine Ar.o ?_;exact ⟨i+1,⟨oM,hz'⟩,z9 [(0,some 0),(1,some 1)] ⟨rfl,rfl,rfl,congrArg (fun q=>some (i64 q)) e5,rfl,rfl,trivial⟩ ⟨congrArg (fun q=>some (Mem.map q)) em,rfl,trivial⟩,by dsimp only;omega⟩
 ·have g:¬(i:Int) < s.ns.length:=g;exact zsy hb hn fun j hj=>hz j oM
theorem zm6(s:Sc)(ht:zcA s):zd Tryz.prog 43 [.agg (scE s)] [] (pr (qx s)) []:=by
 refine zc tok mix Tryz.func43 rfl rfl rfl ?_;refine zb.t (zz0 s ht) ?_;exact zF Iff.rfl
theorem s_has(s:Sc)(i:Int)(ht:zcA s):zd Tryz.prog 75 [.agg (scE s),i64 i] [] (pr (inS s i)) []:=by
 refine zc tok mix Tryz.func75 rfl rfl rfl ?_;refine Br.mk (fun h1=>?_) (fun h1=>ze fun k=>h1 k.2.1);intro hl0;refine Br.mk (fun h2=>?_) (fun h2=>ze fun k=>h2 k.2.2);refine zb.t (zm6 s ht) ?_;exact zF ⟨fun h=>⟨h,h1,h2⟩,fun k=>k.1⟩
def zxO(s:Sc)(i:Int):Int:=if inS s i then yD (zA s.ns) i.toNat else -1
theorem zB8(l:List Nd)(i:Nat)(n:Nd)(hn:l[i]? =some n)(hd:∀n∈l,0<=n.d/\n.d < 8)(hl:l.length<=64):zd Tryz.prog 76 [.sl ndE l,i64 (i:Int)] [] (i64 (yD (zA l) i)) []:=by
 have hi:=(List.getElem?_eq_some_iff.1 hn).1;have eg:(zA l).getD i 0=n.d:=by rw [List.getD_eq_getElem?_getD,yi hn];rfl
 have ep:yD (zA l) i=uq (zA l) (n.d - 1) i:=by unfold yD;rw [eg]
 have hnd:=hd n (List.mem_of_getElem? hn);refine zc tok mix Tryz.func76 rfl rfl rfl ?_;refine Ar.o ?_;refine ⟨Nat,fun m=>⟨[(5,i64 ((m:Int) - 1)),(1,i64 (i:Int)),(0,.sl ndE l)],[],0,25,0⟩,fun m=>m<=i/\uq (zA l) (n.d - 1) m=yD (zA l) i,fun m=>m,i,⟨Nat.le_refl _,ep.symm⟩,?_,?_⟩
 ·exact zf []
 rintro m ⟨hm,he⟩
 refine Br.mk (fun g=>?_) (fun g=>?_)
 ·have g:0<=(m:Int) - 1:=g;obtain ⟨k,rfl⟩:∃k,m=k+1:=⟨m - 1,oM⟩;refine Dr.k ?_;refine Ob.o ?_;intro x hx;have hx:l[k]? =some x:=by rw [← hx];congr 1;omega
  refine Ob.o ?_;intro y hy;have hy:y=n:=Option.some.inj ((show l[i]? =some y from hy).symm.trans hn);rw [hy];refine Ar.o ?_;have hk:=yi hx;refine Br.mk (fun h=>?_) (fun h=>?_)
  ·refine zj ?_;rw [← he];unfold uq;rw [hk,if_pos (by rw [h])];omega
  ·refine Ar.o ?_;refine ⟨k,⟨oM,?_⟩,z9 [] ⟨congrArg (fun q=>some (i64 q)) oM,rfl,rfl,trivial⟩ trivial,by dsimp only;omega⟩;rw [← he]
   conv=>rhs;unfold uq
   rw [hk,if_neg (fun q=>h (Option.some.inj q))]
 ·have g:¬0<=(m:Int) - 1:=g;obtain rfl:m=0:=oM;exact zj he
theorem u6{s:Sc}{i:Int}(h:inS s i):∃n,s.ns[i.toNat]? =some n:=⟨_,List.getElem?_eq_getElem (by have:=h.2;omega)⟩
theorem vz{s:Sc}(h:qx s):∀n∈s.ns,0<=n.d/\n.d < 8:=fun n hn=>by
 obtain ⟨j,hj,e⟩:=List.getElem_of_mem hn;exact (zdA (zcr h (e ▸ List.getElem?_eq_getElem hj)).1).2.1
theorem yV{s:Sc}(h:qx s):s.ns.length<=64:=(zjL.1 h).2.1
theorem zpk(s:Sc)(i:Int)(ht:zcA s):zd Tryz.prog 44 [.agg (scE s),i64 i] [] (i64 (zxO s i)) []:=by
 refine zc tok mix Tryz.func44 rfl rfl rfl ?_;refine zb.t (s_has s i ht) ?_;refine Br.mk (fun h=>zj (if_neg h).symm) (fun h=>?_);have h:inS s i:=Decidable.not_not.1 h;obtain ⟨n,hn⟩:=u6 h;have hp:=zB8 s.ns i.toNat n hn (vz h.1) (yV h.1);rw [show ((i.toNat:Nat):Int)=i by have:=h.2.1;omega] at hp;refine zb.t hp ?_;exact zj (if_pos h).symm
theorem zxQ(n:Int):zd Tryz.prog 181 [i64 n] [] (pr (zcn n)) []:=by
 refine zc tok mix Tryz.func181 rfl rfl rfl ?_;refine Br.mk (fun h=>?_) (fun h=>?_)
 ·exact zP (.inl h)
 ·exact zF ⟨.inr,fun k=>k.resolve_left h⟩
theorem zsA(n:Nd):zd Tryz.prog 185 [.agg (ndE n)] [] (pr (zbH n)) []:=by
 refine zc tok mix Tryz.func185 rfl rfl rfl ?_;refine Br.mk (fun h1=>?_) (fun h1=>ze fun k=>h1 k.1);refine Br.mk (fun h2=>?_) (fun h2=>ze fun k=>h2 k.2.1);refine Br.mk (fun h3=>?_) (fun h3=>ze fun k=>h3 (by rw [k.2.2.1];decide));exact zF ⟨fun h=>⟨h1,h2,by simpa using h3,by simpa using h⟩,fun k=>by rw [k.2.2.2];decide⟩
theorem zsB(n:Nd):zd Tryz.prog 182 [.agg (ndE n)] [] (pr (zcz n)) []:=by
 refine zc tok mix Tryz.func182 rfl rfl rfl ?_;intro hl1;refine Br.mk (fun h1=>?_) (fun h1=>ze fun k=>h1 (by have:=k.1;omega));refine Br.mk (fun h2=>?_) (fun h2=>ze fun k=>h2 k.2.1);intro hl2;refine Br.mk (fun h3=>?_) (fun h3=>ze fun k=>h3 (by have:=k.2.2.1;omega));intro hl3;exact zF ⟨fun h=>⟨oM,h2,oM,oM⟩,fun k=>by have:=k.2.2.2;omega⟩
theorem zm7(n:Nd):zd Tryz.prog 183 [.agg (ndE n)] [] (pr (yT n.pen)) []:=by
 refine zc tok mix Tryz.func183 rfl rfl rfl ?_;refine Br.mk (fun h1=>?_) (fun h1=>ze fun k=>h1 k.1);refine Br.mk (fun h2=>?_) (fun h2=>ze fun k=>h2 k.2.1);refine Br.mk (fun h3=>?_) (fun h3=>ze fun k=>h3 k.2.2.1);refine Br.mk (fun h4=>?_) (fun h4=>ze fun k=>h4 k.2.2.2.1);intro hl1;refine Br.mk (fun h5=>?_) (fun h5=>ze fun k=>h5 (by rw [k.2.2.2.2.1];rfl));have h5:n.pen.d.length=0:=oM;exact zF ⟨fun h=>⟨h1,h2,h3,h4,List.length_eq_zero_iff.1 h5,h⟩,fun k=>k.2.2.2.2.2⟩
theorem zsC(n:Nd):zd Tryz.prog 184 [.agg (ndE n)] [] (pr (zbI n)) []:=by
 refine zc tok mix Tryz.func184 rfl rfl rfl ?_;refine Br.mk (fun h1=>?_) (fun h1=>ze fun k=>h1 k.1);refine Br.mk (fun h2=>?_) (fun h2=>ze fun k=>h2 k.2.1);intro hl1;refine Br.mk (fun h3=>?_) (fun h3=>ze fun k=>h3 (by have:=k.2.2.1;omega));exact zF ⟨fun h=>⟨h1,h2,oM,h⟩,fun k=>k.2.2.2⟩
theorem zB9(n:Nd):zd Tryz.prog 134 [.agg (ndE n)] [] (pr (zf1 n)) []:=by
 have bad:¬uI n->LE (bl false) (pr (zf1 n)):=fun h=>ze fun k=>h k.1
 refine zb5 tok Tryz.func134 rfl rfl rfl (zcC.cut tok mix 2 (fun _:Unit=>⟨[(1,.loc 0 0)],[(0,.box 51 (ndE n))],1,56,0⟩) (fun _=>uI n) ?_ fun _ hk=>zcC.vc tok mix ?_)
 ·intro hl1;refine Br.mk (fun h1=>?_) (fun h1=>?_)
  ·refine Br.mk (fun h2=>bad fun k=>k.elim (fun k=>h2 k.2) fun k=>by have:=k.1;omega) (fun h2=>?_);intro hl2;refine Br.mk (fun h3=>?_) (fun h3=>⟨(),.inl ⟨oM,Decidable.not_not.1 h2⟩,zf [(0,some 0)]⟩);omega
  ·intro hl2;refine Br.mk (fun h3=>?_) (fun h3=>?_)
   ·refine zb.t (zxQ n.cr) ?_;refine Br.mk (fun h4=>bad fun k=>k.elim (fun k=>by have:=k.1;omega) fun k=>h4 k.2) (fun h4=>?_);exact ⟨(),.inr ⟨oM,Decidable.not_not.1 h4⟩,zf [(0,some 0)]⟩
   ·omega
 ·refine Br.mk (fun k1=>?_) (fun k1=>?_)
  ·have e:zf1 n↔(zcz n/\yT n.pen)/\zbI n:=by unfold zf1;rw [if_pos k1];exact ⟨fun h=>h.2,fun h=>⟨hk,h⟩⟩
   refine zb.t (zsB n) ?_;refine Br.mk (fun a=>?_) (fun a=>ze fun k=>a (e.1 k).1.1);refine zb.t (zm7 n) ?_;refine Br.mk (fun b=>?_) (fun b=>ze fun k=>b (e.1 k).1.2);refine zb.t (zsC n) ?_;exact zF ⟨fun h=>e.2 ⟨⟨a,b⟩,h⟩,fun k=>(e.1 k).2⟩
  refine Br.mk (fun k2=>?_) (fun k2=>?_)
  ·have e:zf1 n↔zbH n/\zbI n:=by unfold zf1;rw [if_neg k1,if_pos k2];exact ⟨fun h=>h.2,fun h=>⟨hk,h⟩⟩
   refine zb.t (zsA n) ?_;refine Br.mk (fun a=>?_) (fun a=>ze fun k=>a (e.1 k).1);refine zb.t (zsC n) ?_;exact zF ⟨fun h=>e.2 ⟨a,h⟩,fun k=>(e.1 k).2⟩
  ·have e:zf1 n↔zbH n/\zcz n/\yT n.pen:=by unfold zf1;rw [if_neg k1,if_neg k2];exact ⟨fun h=>h.2,fun h=>⟨hk,h⟩⟩
   refine zb.t (zsA n) ?_;refine Br.mk (fun a=>?_) (fun a=>ze fun k=>a (e.1 k).1);refine zb.t (zsB n) ?_;refine Br.mk (fun b=>?_) (fun b=>ze fun k=>b (e.1 k).2.1);refine zb.t (zm7 n) ?_;exact zF ⟨fun h=>e.2 ⟨a,b,h⟩,fun k=>(e.1 k).2.2⟩
theorem zpm(xs:List Pnt)(ht:zdx xs):zd Tryz.prog 187 [.sl jb xs] [] (pr (uh xs)) []:=by
 refine zc tok mix Tryz.func187 rfl rfl rfl ?_;refine ⟨Int,fun i=>⟨[(3,i64 i),(0,.sl jb xs)],[],0,16,0⟩,fun i=>0<=i/\i<=xs.length/\∀(j:Nat) q,(j:Int) < i->xs[j]? =some q->u3 q,fun i=>((xs.length:Int) - i).toNat,0,?_,?_,?_⟩
 ·exact ⟨oM,oM,fun j q hj=>by omega⟩
 ·exact zf []
 rintro i ⟨h1,h2,h3⟩
 intro hl0;refine Br.mk (fun h4=>?_) (fun h4=>?_)
 ·refine Ob.o ?_;intro x hx;have hm:=ht x (List.mem_of_getElem? hx);refine zb.t (zpl x hm.1) ?_;refine Br.mk (fun h5=>ze fun k=>h5 (k x (List.mem_of_getElem? hx))) (fun h5=>?_);refine Ar.o ?_;refine ⟨i+1,⟨oM,oM,fun j q hj hq=>?_⟩,zf [],by dsimp only;omega⟩
  by_cases e:j=i.toNat
  ·subst e;rw [hx] at hq;cases hq;exact Decidable.not_not.1 h5
  ·exact h3 j q oM hq
 ·refine zP fun p hp=>?_
  obtain ⟨j,hj,he⟩:=List.getElem_of_mem hp;exact h3 j p oM (by rw [← he];exact List.getElem?_eq_getElem hj)
theorem zz2(n:Nd)(t1:zdx n.fill)(t2:zdx n.strk):zd Tryz.prog 135 [.agg (ndE n)] [] (i64 (u4 n)) []:=by
 refine zc tok mix Tryz.func135 rfl rfl rfl ?_;refine zb.t (zoj n.path) ?_;refine Br.mk (fun h1=>zj (by unfold u4;rw [if_pos h1])) (fun h1=>?_);refine zb.t (zxQ n.rule) ?_;refine Br.mk (fun h2=>zj (by unfold u4;rw [if_neg h1,if_pos h2])) (fun h2=>?_);intro hl1;refine Br.mk (fun a1=>zj (by unfold u4;rw [if_neg h1,if_neg h2,if_pos (.inl oM)])) (fun a1=>?_);intro hl2;refine Br.mk (fun a2=>zj (by unfold u4;rw [if_neg h1,if_neg h2,if_pos (.inr oM)])) (fun a2=>?_);have h3:¬(1 < n.fill.length∨1 < n.strk.length):=oM;intro hl3
 refine Br.mk (fun b1=>?_) (fun b1=>?_)
 all_goals first
  | (refine zb.t (zy5 n.pen) ?_;refine Br.mk (fun b2=>zj (by unfold u4;rw [if_neg h1,if_neg h2,if_neg h3,if_pos ⟨oM,b2⟩])) (fun b2=>?_);have h4:¬(0 < n.strk.length/\¬qa n.pen):=fun k=>b2 k.2)
  | have h4:¬(0 < n.strk.length/\¬qa n.pen):=fun k=>b1 (by have:=k.1;omega)
 all_goals intro hl4
 all_goals refine Br.mk (fun c1=>?_) (fun c1=>?_)
 all_goals first
  | (refine zb.t (zm7 n) ?_;refine Br.mk (fun c2=>zj (by unfold u4;rw [if_neg h1,if_neg h2,if_neg h3,if_neg h4,if_pos ⟨oM,c2⟩])) (fun c2=>?_);have h5:¬(n.strk.length=0/\¬yT n.pen):=fun k=>c2 k.2)
  | have h5:¬(n.strk.length=0/\¬yT n.pen):=fun k=>c1 (by have:=k.1;omega)
 all_goals refine zb.t (zpm n.fill t1) ?_
 all_goals refine Br.mk (fun d1=>zj (by unfold u4;rw [if_neg h1,if_neg h2,if_neg h3,if_neg h4,if_neg h5];exact (if_pos (Or.inl d1)).symm)) (fun d1=>?_)
 all_goals refine zb.t (zpm n.strk t2) ?_
 all_goals refine Br.mk (fun d2=>zj (by unfold u4;rw [if_neg h1,if_neg h2,if_neg h3,if_neg h4,if_neg h5];exact (if_pos (Or.inr d2)).symm)) (fun d2=>zj (by unfold u4;rw [if_neg h1,if_neg h2,if_neg h3,if_neg h4,if_neg h5];exact (if_neg (fun k=>k.elim d1 d2)).symm))
theorem zz3(n:Nd)(h:zjG n):zd Tryz.prog 89 [.agg (ndE n)] [] (i64 (yI n)) []:=by
 obtain ⟨ht,t1,t2,t3⟩:=h;refine zc tok mix Tryz.func89 rfl rfl rfl ?_;refine Br.mk (fun a1=>zj (by unfold yI;rw [if_pos (.inl a1)])) (fun a1=>?_);refine Br.mk (fun a2=>zj (by unfold yI;rw [if_pos (.inr a2)])) (fun a2=>?_);have h1:¬(n.k < 1∨3 < n.k):=oM;refine Br.mk (fun b1=>zj (by unfold yI;rw [if_neg h1,if_pos oM])) (fun b1=>?_);refine Br.mk (fun b2=>zj (by unfold yI;rw [if_neg h1,if_pos oM])) (fun b2=>?_);refine Br.mk (fun b3=>zj (by unfold yI;rw [if_neg h1,if_pos oM])) (fun b3=>?_)
 refine Br.mk (fun b4=>zj (by unfold yI;rw [if_neg h1,if_pos oM])) (fun b4=>?_);have h2:¬(n.id < 1∨1073741824 < n.id∨n.d < 0∨8<=n.d):=oM;refine zb.t (zdY n.t (ht.up dC)) ?_;refine Br.mk (fun h3=>zj (by unfold yI;rw [if_neg h1,if_neg h2,if_pos h3])) (fun h3=>?_);refine zb.t (zrP n.t (ht.up dC)) ?_;refine zb.t (qn 0 (by constructor <;> decide)) ?_;have hcmp:=zmt (ofQ (yf n.t)) (ofQ ((0:Int):Rat)) (by have:=zf0 ht;rw [zz];omega) (by decide +kernel);rw [zV,zV] at hcmp;refine zb.t hcmp ?_
 refine Br.mk (fun h4=>zj (by unfold yI;rw [if_neg h1,if_neg h2,if_neg h3,if_pos ((Decidable.not_iff_not.1 (uo _)).1 h4)])) (fun h4=>?_);have h4:¬yf n.t=0:=(uo _).1 h4;refine zb.t (zoj n.clip) ?_;refine Br.mk (fun h5=>zj (by unfold yI;rw [if_neg h1,if_neg h2,if_neg h3,if_neg h4,if_pos h5])) (fun h5=>?_);refine zb.t (zB9 n) ?_;refine Br.mk (fun h6=>zj (by unfold yI;rw [if_neg h1,if_neg h2,if_neg h3,if_neg h4,if_neg h5,if_pos h6])) (fun h6=>?_);refine Br.mk (fun k2=>?_) (fun k2=>?_)
 ·refine zb.t (zz2 n t1 t2) ?_;exact zj (by unfold yI;rw [if_neg h1,if_neg h2,if_neg h3,if_neg h4,if_neg h5,if_neg h6,if_neg oM,if_pos k2])
 refine Br.mk (fun k1=>?_) (fun k1=>?_)
 ·refine zb.t (zB1 n.mode) ?_;exact Br.mk (fun m=>zj (by unfold yI;rw [if_neg h1,if_neg h2,if_neg h3,if_neg h4,if_neg h5,if_neg h6,if_pos k1];exact (if_pos m).symm)) (fun m=>zj (by unfold yI;rw [if_neg h1,if_neg h2,if_neg h3,if_neg h4,if_neg h5,if_neg h6,if_pos k1];exact (if_neg m).symm))
 refine zb.t (zjC n.im) ?_;refine Br.mk (fun m=>zj (by unfold yI;rw [if_neg h1,if_neg h2,if_neg h3,if_neg h4,if_neg h5,if_neg h6,if_neg k1,if_neg k2,if_pos m])) (fun m=>?_);refine Br.mk (fun s1=>?_) (fun s1=>zj (by unfold yI;rw [if_neg h1,if_neg h2,if_neg h3,if_neg h4,if_neg h5,if_neg h6,if_neg k1,if_neg k2,if_neg m,if_neg (fun k=>s1 k.1)]))
 exact Br.mk (fun s2=>zj (by unfold yI;rw [if_neg h1,if_neg h2,if_neg h3,if_neg h4,if_neg h5,if_neg h6,if_neg k1,if_neg k2,if_neg m,if_pos ⟨s1,s2⟩])) (fun s2=>zj (by unfold yI;rw [if_neg h1,if_neg h2,if_neg h3,if_neg h4,if_neg h5,if_neg h6,if_neg k1,if_neg k2,if_neg m,if_neg (fun k=>s2 k.2)]))
def zjQ(l:List Nd)(id:Int):Int:=match l.findIdx? (fun n=>n.id=id) with | some i=>i | none=> -1
theorem zxR{l:List Nd}{id:Int}{i:Nat}{x:Nd}(h:∀(j:Nat) q,j < i->l[j]? =some q->q.id≠id)(hx:l[i]? =some x)(hb:x.id=id):zjQ l id=i:=by
 have:l.findIdx? (fun n=>n.id=id)=some i:=by
  rw [List.findIdx?_eq_some_iff_getElem];have hi:=(List.getElem?_eq_some_iff.1 hx);refine ⟨hi.1,by rw [hi.2];simpa using hb,fun j hj=>?_⟩;have:=h j _ hj (List.getElem?_eq_getElem (by have:=hi.1;omega))
  simpa using this
 unfold zjQ;rw [this]
theorem zjR{l:List Nd}{id:Int}(h:∀p∈l,p.id≠id):zjQ l id= -1:=by
 have:l.findIdx? (fun n=>n.id=id)=none:=by
  rw [List.findIdx?_eq_none_iff];intro p hp;simpa using h p hp
 unfold zjQ;rw [this]
theorem zpn{l:List Nd}{id:Int}:0<=zjQ l id↔id∈l.map Nd.id:=by
 by_cases h:∀p∈l,p.id≠id
 ·rw [zjR h];refine ⟨fun k=>by omega,fun k=>?_⟩;obtain ⟨p,hp,e⟩:=List.mem_map.1 k;exact absurd e (h p hp)
 ·unfold zjQ
  cases hf:l.findIdx? (fun n=>n.id=id) with
  | some i=>
   refine ⟨fun _=>?_,fun _=>Int.natCast_nonneg i⟩;rw [List.findIdx?_eq_some_iff_getElem] at hf;obtain ⟨hi,h1,_⟩:=hf;exact List.mem_map.2 ⟨l[i],List.getElem_mem hi,by simpa using h1⟩
  | none=>rw [List.findIdx?_eq_none_iff] at hf;exact absurd (fun p hp=>by simpa using hf p hp) h
theorem zCa(l:List Nd)(id:Int):zd Tryz.prog 90 [.sl ndE l,i64 id] [] (i64 (zjQ l id)) []:=by
 refine zc tok mix Tryz.func90 rfl rfl rfl ?_;refine ⟨Nat,fun i=>⟨[(5,i64 (i:Int)),(1,i64 id),(0,.sl ndE l)],[],0,20,0⟩,fun i=>i<=l.length/\∀(j:Nat) q,j < i->l[j]? =some q->q.id≠id,fun i=>l.length - i,0,⟨Nat.zero_le _,fun j q h=>by omega⟩,?_,?_⟩
 ·exact zf []
 rintro i ⟨h1,h2⟩
 intro hl0;refine Br.mk (fun g=>?_) (fun g=>?_)
 ·have g:(i:Int) < l.length:=g;refine Ob.o ?_;intro x hx;have hx:l[i]? =some x:=hx;refine Br.mk (fun h=>zj (zxR h2 hx h).symm) (fun h=>?_);refine Ar.o ?_;refine ⟨i+1,⟨oM,fun j q hj hq=>?_⟩,zf [],by dsimp only;omega⟩
  by_cases c:j=i
  ·subst c;rw [hx] at hq;cases hq;exact h
  ·exact h2 j q oM hq
 ·have g:¬(i:Int) < l.length:=g;refine zj (zjR fun p hp=>?_).symm;obtain ⟨j,hj,e⟩:=List.getElem_of_mem hp;exact h2 j p oM (by rw [← e];exact List.getElem?_eq_getElem hj)
theorem zxS{l:List Nd}{n:Nd}(h:l[0]? =some n):jq l 0 n↔n.d=0:=by
 unfold jq;rw [show l[0 - 1]? =some n from h];exact Iff.rfl
theorem zxT{l:List Nd}{i:Nat}{n p:Nd}(hp:l[i]? =some p):jq l (i+1) n↔(p.k=1/\n.d=p.d+1)∨n.d<=p.d:=by
 unfold jq;rw [show l[i+1 - 1]? =some p from hp];exact Iff.rfl
theorem zxU(l:List Nd)(i:Nat)(n:Nd)(hn:l[i]? =some n)(hd:∀j p,j < i->l[j]? =some p->0<=p.d/\p.d < 8)(hl:l.length<=64):
  zd Tryz.prog 91 [.sl ndE l,i64 (i:Int)] [] (pr (jq l i n)) []:=by
 have hi:=(List.getElem?_eq_some_iff.1 hn).1;refine zc tok mix Tryz.func91 rfl rfl rfl ?_;refine Br.mk (fun g=>?_) (fun g=>?_)
 ·have g:(i:Int)=0:=g;obtain rfl:i=0:=oM;refine Ob.o ?_;intro x hx;have hx:x=n:=Option.some.inj ((show l[0]? =some x from hx).symm.trans hn);rw [hx];exact zF (zxS hn).symm
 ·have g:¬(i:Int)=0:=g;obtain ⟨k,rfl⟩:∃k,i=k+1:=⟨i - 1,oM⟩;obtain ⟨p,hp⟩:∃p,l[k]? =some p:=⟨_,List.getElem?_eq_getElem oM⟩;have hpd:=hd k p oM hp;have hs:=zxT (n:=n) hp;refine Dr.k ?_;refine Ar.o ?_;refine Ob.o ?_;intro x hx;have hx:x=p:=Option.some.inj ((show l[k]? =some x by rw [← hx];congr 1;omega).symm.trans hp);rw [hx];refine Br.mk (fun h1=>?_) (fun h1=>?_)
  ·refine Ob.o ?_;intro y hy;have hy:y=n:=Option.some.inj ((show l[k+1]? =some y by rw [← hy];congr 1).symm.trans hn);rw [hy];refine Ar.o ?_;refine Ob.o ?_;intro z hz;have hz:z=p:=Option.some.inj ((show l[k]? =some z by rw [← hz];congr 1;omega).symm.trans hp);rw [hz];refine Ar.o ?_;refine Br.mk (fun h2=>zP (hs.2 (.inl ⟨h1,h2⟩))) (fun h2=>?_);refine Dr.k ?_;refine Ob.o ?_;intro y hy;have hy:y=n:=Option.some.inj ((show l[k+1]? =some y by rw [← hy];congr 1).symm.trans hn);rw [hy];refine Ar.o ?_;refine Ob.o ?_;intro z hz
   have hz:z=p:=Option.some.inj ((show l[k]? =some z by rw [← hz];congr 1;omega).symm.trans hp);rw [hz];exact zF ⟨fun h=>hs.2 (.inr h),fun h=>(hs.1 h).resolve_left fun q=>h2 q.2⟩
  ·refine Dr.k ?_;refine Ob.o ?_;intro y hy;have hy:y=n:=Option.some.inj ((show l[k+1]? =some y by rw [← hy];congr 1).symm.trans hn);rw [hy];refine Ar.o ?_;refine Ob.o ?_;intro z hz;have hz:z=p:=Option.some.inj ((show l[k]? =some z by rw [← hz];congr 1;omega).symm.trans hp);rw [hz];exact zF ⟨fun h=>hs.2 (.inr h),fun h=>(hs.1 h).resolve_left fun q=>h1 q.1⟩
theorem zz4(l:List Nd)(i:Nat)(n:Nd)(hn:l[i]? =some n)(ht:zjG n)(hd:∀j p,j < i->l[j]? =some p->0<=p.d/\p.d < 8)(hl:l.length<=64):
  zd Tryz.prog 52 [.sl ndE l,i64 (i:Int)] [] (i64 (zf2 l i n)) []:=by
 have hi:=(List.getElem?_eq_some_iff.1 hn).1;refine zc tok mix Tryz.func52 rfl rfl rfl ?_;refine Ob.o ?_;intro x hx;have hx:x=n:=Option.some.inj ((show l[i]? =some x from hx).symm.trans hn);rw [hx];refine zb.t (zz3 n ht) ?_;refine Br.mk (fun h=>zj (zpi h).symm) (fun h1=>?_);have h1:yI n=0:=Decidable.not_not.1 h1;refine Dr.k ?_;refine Ob.mk ⟨oM,fun _ _=>rfl⟩ ?_;refine Ob.o ?_;intro y hy;have hy:y=n:=Option.some.inj ((show l[i]? =some y from hy).symm.trans hn);rw [hy]
 have e:(l.drop (0:Int).toNat).take ((i:Int) - 0).toNat=l.take i:=by rw [show (0:Int).toNat=0 from rfl,List.drop_zero];congr 1
 refine zb.t (zCa ((l.drop (0:Int).toNat).take ((i:Int) - 0).toNat) n.id) ?_;rw [e];refine Br.mk (fun h=>zj (zpj h1 (zpn.1 h)).symm) (fun h2=>?_);have h2:n.id∉(l.take i).map Nd.id:=fun k=>h2 (zpn.2 k)
 refine zb.t (zxU l i n hn hd hl) ?_;refine Br.mk (fun h=>zj (zjP h1 h2 h).symm) (fun h3=>?_);exact zj (zsz h1 h2 (Decidable.not_not.1 h3)).symm
theorem zxV(s:Sc)(ht:zcA s):zd Tryz.prog 24 [.agg (scE s)] [] (zuv (zhz s)) []:=by
 refine zc tok mix Tryz.func24 rfl rfl rfl ?_;refine Br.mk (fun h=>vS (.inl h)) (fun h1=>?_);refine Br.mk (fun h=>vS (.inr (.inl h))) (fun h2=>?_);refine Br.mk (fun h=>vS (.inr (.inr (.inl h)))) (fun h3=>?_);refine Br.mk (fun h=>vS (.inr (.inr (.inr h)))) (fun h4=>?_);have hb:¬zew s:=fun k=>k.elim h1 fun k=>k.elim h2 fun k=>k.elim h3 h4
 intro hl0;refine Br.mk (fun h=>zlC hb oM) (fun h5=>?_);have hn:¬64 < s.ns.length:=oM;have ht:=ht oM;refine ⟨Nat,fun i=>⟨[(4,i64 (i:Int)),(1,.loc 0 0)],[(0,.box 26 (scE s))],1,43,0⟩,fun i=>i<=s.ns.length/\∀j,j < i->uj s.ns j=0,fun i=>s.ns.length - i,0,⟨Nat.zero_le _,fun j h=>by omega⟩,?_,?_⟩
 ·exact zf [(0,some 0)]
 rintro i ⟨hi,hz⟩
 intro hl1;refine Br.mk (fun g=>?_) (fun g=>?_)
 ·have g:(i:Int) < s.ns.length:=g;obtain ⟨x,hx⟩:∃x,s.ns[i]? =some x:=⟨_,List.getElem?_eq_getElem oM⟩;have hm:=List.mem_of_getElem? hx
  have hd:∀j p,j < i->s.ns[j]? =some p->0<=p.d/\p.d < 8:=fun j p hj hp=>by
   have:=hz j hj;rw [zcq hp] at this;exact (zdA (zlB this).1).2.1
  refine zb.t (zz4 s.ns i x hx (ht x hm) hd oM) ?_;refine Br.mk (fun h=>zhV hb hn hx hz rfl h) (fun h6=>?_);refine Ar.o ?_;exact ⟨i+1,⟨oM,zlD hx hz (Decidable.not_not.1 h6)⟩,zf [(0,some 0)],by dsimp only;omega⟩
 ·have g:¬(i:Int) < s.ns.length:=g;exact zsy hb hn fun j hj=>hz j oM
theorem zdB(s:Sc)(ht:zcA s):zd Tryz.prog 7 [.agg (scE s)] [] (pr (qx s)) []:=by
 refine zc tok mix Tryz.func7 rfl rfl rfl ?_;refine zb.t (zxV s ht) ?_;exact zF Iff.rfl
theorem zjS(s:Sc)(i:Int)(ht:zcA s):zd Tryz.prog 32 [.agg (scE s),i64 i] [] (pr (inS s i)) []:=by
 refine zc tok mix Tryz.func32 rfl rfl rfl ?_;refine zb.t (zdB s ht) ?_;refine Br.mk (fun h1=>?_) (fun h1=>ze fun k=>h1 k.1);refine Br.mk (fun h2=>?_) (fun h2=>ze fun k=>h2 k.2.1);intro hl0;exact zF ⟨fun h=>⟨h1,h2,h⟩,fun k=>k.2.2⟩
theorem zxW(l:List Nd)(i:Nat)(n:Nd)(hn:l[i]? =some n)(hd:∀n∈l,0<=n.d/\n.d < 8)(hl:l.length<=64):zd Tryz.prog 33 [.sl ndE l,i64 (i:Int)] [] (i64 (yD (zA l) i)) []:=by
 have hi:=(List.getElem?_eq_some_iff.1 hn).1;have eg:(zA l).getD i 0=n.d:=by rw [List.getD_eq_getElem?_getD,yi hn];rfl
 have ep:yD (zA l) i=uq (zA l) (n.d - 1) i:=by unfold yD;rw [eg]
 have hnd:=hd n (List.mem_of_getElem? hn);refine zc tok mix Tryz.func33 rfl rfl rfl ?_;refine Ar.o ?_;refine ⟨Nat,fun m=>⟨[(5,i64 ((m:Int) - 1)),(1,i64 (i:Int)),(0,.sl ndE l)],[],0,25,0⟩,fun m=>m<=i/\uq (zA l) (n.d - 1) m=yD (zA l) i,fun m=>m,i,⟨Nat.le_refl _,ep.symm⟩,?_,?_⟩
 ·exact zf []
 rintro m ⟨hm,he⟩
 refine Br.mk (fun g=>?_) (fun g=>?_)
 ·have g:0<=(m:Int) - 1:=g;obtain ⟨k,rfl⟩:∃k,m=k+1:=⟨m - 1,oM⟩;refine Dr.k ?_;refine Ob.o ?_;intro x hx;have hx:l[k]? =some x:=by rw [← hx];congr 1;omega
  refine Ob.o ?_;intro y hy;have hy:y=n:=Option.some.inj ((show l[i]? =some y from hy).symm.trans hn);rw [hy];refine Ar.o ?_;have hk:=yi hx;refine Br.mk (fun h=>?_) (fun h=>?_)
  ·refine zj ?_;rw [← he];unfold uq;rw [hk,if_pos (by rw [h])];omega
  ·refine Ar.o ?_;refine ⟨k,⟨oM,?_⟩,z9 [] ⟨congrArg (fun q=>some (i64 q)) oM,rfl,rfl,trivial⟩ trivial,by dsimp only;omega⟩;rw [← he]
   conv=>rhs;unfold uq
   rw [hk,if_neg (fun q=>h (Option.some.inj q))]
 ·have g:¬0<=(m:Int) - 1:=g;obtain rfl:m=0:=oM;exact zj he
end Go.Gs
