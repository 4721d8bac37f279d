/- Outlines: rings under an affine map, the second text. -/
import Derived.Test.YtbgnkgoiocjbnaaGreatMA
import Derived.Test.YtbgnkgoiocjbnaaGreatMBV
import Derived.Test.YtbgnkgoiocjbnaaGreatMBR
set_option maxRecDepth 100000
set_option maxHeartbeats 8000000
set_option linter.all false
namespace Go.Gs
open Go.Proofs
def zaH(t:AF):List Pt->Int
 | []=>0
 | p::r=>if (kt t p).2≠0 then (kt t p).2 else zaH t r
def vO(t:AF)(l:List Pt):List Pt:=l.map fun p=>(kt t p).1
def zb7(t:AF):List (List Pt)->Int
 | []=>0
 | r::s=>if zaH t r≠0 then zaH t r else zb7 t s
def jh(rs:List (List Pt))(t:AF):List (List Pt)×Int:=
 if ¬qg rs then ([],12) else if zb7 t rs≠0 then ([],zb7 t rs) else (rs.map (vO t),0)
theorem zfG{t:AF}:∀{l:List Pt},(∀p∈l,(kt t p).2=0)->zaH t l=0
 | [],_=>rfl
 | p::r,h=>by unfold zaH;rw [kF (h p (.head _))];exact zfG fun q hq=>h q (.tail _ hq)
theorem zkf{t:AF}:∀{l:List Pt} {i:Nat} {x:Pt},l[i]? =some x->(∀p∈l.take i,(kt t p).2=0)->¬(kt t x).2=0->zaH t l=(kt t x).2
 | p::r,0,x,h,_,hx=>by cases h;unfold zaH;rw [if_pos hx]
 | p::r,i+1,x,h,ha,hx=>by
  unfold zaH;rw [kF (ha p (by rw [List.take_succ_cons];exact .head _))];exact zkf (l:=r) (i:=i) h (fun q hq=>ha q (by rw [List.take_succ_cons];exact .tail _ hq)) hx
theorem zkg{t:AF}:∀{l:List (List Pt)},(∀r∈l,zaH t r=0)->zb7 t l=0
 | [],_=>rfl
 | p::r,h=>by unfold zb7;rw [kF (h p (.head _))];exact zkg fun q hq=>h q (.tail _ hq)
theorem zkh{t:AF}:∀{l:List (List Pt)} {i:Nat} {x:List Pt},l[i]? =some x->(∀r∈l.take i,zaH t r=0)->¬zaH t x=0->zb7 t l=zaH t x
 | p::r,0,x,h,_,hx=>by cases h;unfold zb7;rw [if_pos hx]
 | p::r,i+1,x,h,ha,hx=>by
  unfold zb7;rw [kF (ha p (by rw [List.take_succ_cons];exact .head _))];exact zkh (l:=r) (i:=i) h (fun q hq=>ha q (by rw [List.take_succ_cons];exact .tail _ hq)) hx
theorem ur{α:Type}{P:α->Prop}{l:List α}{i:Nat}{x:α}(h:l[i]? =some x)(ha:∀p∈l.take i,P p)(hx:P x):∀p∈l.take (i+1),P p:=by
 intro p hp;rw [List.take_add_one,h] at hp
 rcases List.mem_append.1 hp with hp | hp
 ·exact ha p hp
 ·simp at hp;rw [hp];exact hx
def ye(l:List (List Pt)):List (List SV):=l.map zw
theorem yS(l:List (List Pt)):(ye l).length=l.length:=by unfold ye;simp
theorem uL{tb:List (Nat×Option Nat)}{l m:List (List Pt)}(e:l=m):
  (ye m).length=(ye l).length/\∀(j:Nat) x,(ye l)[j]? =some x->∃x',(ye m)[j]? =some x'/\ren.rens tb x=some x':=by
 subst e;refine ⟨rfl,fun j x hx=>⟨x,hx,?_⟩⟩;unfold ye at hx;rw [List.getElem?_map] at hx
 cases hy:l[j]? with
 | none=>rw [hy] at hx;cases hx
 | some y=>rw [hy] at hx;cases hx;rfl
theorem zhr{L:List (List Pt)}{q:List Pt}{a:Nat}:∀(i j:Nat) (x':List SV) (s':SV),(ye (L++[q]))[i]? =some x'->x'[j]? =some s'->∃(x:List SV) (s:SV),(ye L++[[.own a]])[i]? =some x/\x[j]? =some s/\(s'=s∨(s=.own a/\s'=.sl ptE q)):=by
 intro i j x' s' hx hs;have e:ye (L++[q])=ye L++[zw q]:=by unfold ye;rw [List.map_append];rfl
 rw [e] at hx;generalize ye L=R at*
 rcases Nat.lt_trichotomy i R.length with h | h | h
 ·rw [List.getElem?_append_left h] at hx;exact ⟨x',s',by rw [List.getElem?_append_left h];exact hx,hs,.inl rfl⟩
 ·subst h;rw [List.getElem?_concat_length] at hx
  cases hx
  match j,hs with
  | 0,hs=>cases hs;exact ⟨[.own a],.own a,List.getElem?_concat_length ..,rfl,.inr ⟨rfl,rfl⟩⟩
  | j+1,hs=>cases hs
 ·rw [List.getElem?_eq_none (by simp;omega)] at hx;cases hx
def tS(rs:List (List Pt))(t:AF):Nat->St
 | 0=>⟨[(0,.sl zw rs),(3,.loc 0 0),(6,.val (.slice none 0 0)),(7,i64 ((0:Nat):Int))],[(0,.box 29 (afE t))],1,54,0⟩
 | i+1=>⟨[(0,.sl zw rs),(3,.loc 0 0),(6,.own 1),(7,i64 ((i+1:Nat):Int))],[(0,.box 29 (afE t)),(1,.garr 76 1 (ye ((rs.take (i+1)).map (vO t))))],2,54,0⟩
theorem zxx(rs:List (List Pt))(t:AF)(ht:t.le 100000)(hl:rs.length<=100000):zd Tryz.prog 22 [.sl zw rs,.agg (afE t)] [] (.tup [.own 0,i64 (jh rs t).2]) [(0,.arr 76 zw 1 (jh rs t).1)]:=by
 refine zhF tok mix Tryz.func22 rfl rfl rfl ?_
 have bad:∀{e:Int},jh rs t=([],e)->zak none (.tup [.val (.slice none 0 0),i64 e]) (.tup [.own 0,i64 (jh rs t).2])/\(jh rs t).1=[]:=fun {e} h=>
  ⟨.tup _ _ rfl (zgl.ix (.cons (.nil rfl) (.cons (.le _ _ (zu (by rw [h])) rfl) .nil))).2,by rw [h]⟩
 refine zb.t (zle rs) ?_;refine Br.mk (fun k=>?_) (fun k=>?_)
 ·have k:¬qg rs:=k;have hb:=bad (e:=12) (by unfold jh;rw [if_pos k]);exact ⟨_,.refl,none,hb.1,hb.2⟩
 have k:qg rs:=Decidable.not_not.1 k;have es:jh rs t=if zb7 t rs≠0 then ([],zb7 t rs) else (rs.map (vO t),0):=by unfold jh;rw [zV k]
 have hc:kN rs<=4096:=by have:=k.1;omega
 refine ⟨Nat,tS rs t,fun i=>i<=rs.length/\∀r∈rs.take i,zaH t r=0,fun i=>rs.length - i,0,⟨Nat.zero_le _,fun r hr=>by cases hr⟩,?_,?_⟩
 ·exact zh [(0,some 0)]
 rintro (_ | i) ⟨h1,h2⟩
 ·intro hl1;refine Br.mk (fun g=>?_) (fun g=>?_);rotate_left
  ·have g:¬(((0:Nat):Int)) < rs.length:=g;have e0:rs=[]:=List.eq_nil_of_length_eq_zero oM;have hb:=bad (e:=0) (by rw [es,e0];rfl);exact ⟨_,.refl,none,hb.1,hb.2⟩
  have g:((0:Nat):Int) < rs.length:=g;obtain ⟨x,hx⟩:∃x,rs[0]? =some x:=⟨_,List.getElem?_eq_getElem oM⟩;have hxl:=Nat.le_trans (uK (List.mem_of_getElem? hx)) hc;have same:∀{y:List Pt},rs[((0:Nat):Int).toNat]? =some y->y=x:=fun h=>Option.some.inj ((show rs[0]? =some _ from h).symm.trans hx)
  refine ⟨Nat,fun j=>⟨[(0,.sl zw rs),(3,.loc 0 0),(6,.val (.slice none 0 0)),(7,i64 ((0:Nat):Int)),(8,.own 1),(9,i64 (j:Int))],[(0,.box 29 (afE t)),(1,.arr 52 ptE 2 (vO t (x.take j)))],2,54,0⟩,fun j=>j<=x.length/\∀p∈x.take j,(kt t p).2=0,fun j=>x.length - j,0,⟨Nat.zero_le _,fun p hp=>by cases hp⟩,?_,?_⟩
  ·exact zh [(0,some 0),(1,none)]
  rintro j ⟨j1,j2⟩
  have ml:(vO t (x.take j)).length<=4096:=by unfold vO;rw [List.length_map,List.length_take];omega
  refine Ob.o ?_;intro y hy;rw [same hy];intro hl2;refine Br.mk (fun q=>?_) (fun q=>?_)
  ·have q:(j:Int) < x.length:=q;obtain ⟨z,hz⟩:∃z,x[j]? =some z:=⟨_,List.getElem?_eq_getElem oM⟩;refine Dr.d ?_;refine Ob.o ?_;intro y' hy';rw [same hy'];refine Ob.o ?_;intro z' hz';have ez:z'=z:=Option.some.inj ((show x[j]? =some z' from hz').symm.trans hz);rw [ez];refine zb.t (zeK t z ht) ?_;refine Ob.mk (by kernel_rfl) ?_;refine Br.mk (fun e=>?_) (fun e=>?_)
   ·have e:¬(kt t z).2=0:=e;have eL:=zkf hz j2 e;have eR:=zkh hx h2 (by rw [eL];exact e);have hb:=bad (e:=(kt t z).2) (by rw [es,eR,eL,if_pos e]);exact ⟨_,.refl,none,hb.1,hb.2⟩
   have e:(kt t z).2=0:=Decidable.not_not.1 e;refine ⟨Pt,ptE,[(kt t z).1],rfl,Ob.o0 ?_⟩;refine ⟨[(kt t z).1],rfl,Ob.o3 ?_⟩;refine Ar.o ?_;exact ⟨j+1,⟨oM,ur hz j2 e⟩,zM [(0,some 0),(1,some 4)] ⟨rfl,congrArg (fun q=>some (Mem.arr 52 ptE 2 q)) (by unfold vO;rw [List.take_add_one,hz,List.map_append];rfl),trivial⟩,by dsimp only;omega⟩
  have q:¬(j:Int) < x.length:=q;have etx:x.take j=x:=List.take_of_length_le oM;rw [etx] at j2;refine ⟨[[.own 1]],rfl,Ob.o7 ?_⟩;refine Ob.o28 ?_;refine Ar.o ?_;refine ⟨0+1,⟨oM,ur hx h2 (zfG j2)⟩,(zdI (sz0:=1) (T0:=76) 1 3 (enc:=ptE) (ys:=vO t (x.take j)) rfl rfl (xs':=ye ([]++[vO t (x.take j)])) (by rfl) (fun z hz=>?_) zhr).trans (zM [(0,some 0),(1,some 3)] ⟨rfl,⟨_,rfl,uL ?_⟩,trivial⟩),by dsimp only;omega⟩
  ·unfold ye at hz;obtain ⟨b,_,rfl⟩:=List.mem_map.1 hz;rfl
  ·rw [etx];rw [List.take_add_one,hx];rfl
 ·intro hl1;refine Br.mk (fun g=>?_) (fun g=>?_);rotate_left
  ·have g:¬((i+1:Nat):Int) < rs.length:=g;have et:rs.take (i+1)=rs:=List.take_of_length_le oM;rw [et] at h2;have er:jh rs t=(rs.map (vO t),0):=by rw [es,zkg h2];rfl
   refine ⟨_,zgk 1 zw ((rs.take (i+1)).map (vO t)) rfl (fun _ _=>rfl),some 1,.tup _ _ rfl (zgl.ix (.cons (.own 1 rfl) (.cons (.le _ _ (zu (by rw [er])) rfl) .nil))).2,congrArg (fun q=>some (Mem.arr 76 zw 1 q)) (by rw [er,et]),fun _ _=>rfl⟩
  have g:(((i+1):Nat):Int) < rs.length:=g;obtain ⟨x,hx⟩:∃x,rs[(i+1)]? =some x:=⟨_,List.getElem?_eq_getElem oM⟩;have hxl:=Nat.le_trans (uK (List.mem_of_getElem? hx)) hc;have same:∀{y:List Pt},rs[(((i+1):Nat):Int).toNat]? =some y->y=x:=fun h=>Option.some.inj ((show rs[(i+1)]? =some _ from h).symm.trans hx)
  refine ⟨Nat,fun j=>⟨[(0,.sl zw rs),(3,.loc 0 0),(6,.own 1),(7,i64 (((i+1):Nat):Int)),(8,.own 2),(9,i64 (j:Int))],[(0,.box 29 (afE t)),(1,.garr 76 1 (ye ((rs.take (i+1)).map (vO t)))),(2,.arr 52 ptE 2 (vO t (x.take j)))],3,54,0⟩,fun j=>j<=x.length/\∀p∈x.take j,(kt t p).2=0,fun j=>x.length - j,0,⟨Nat.zero_le _,fun p hp=>by cases hp⟩,?_,?_⟩
  ·exact zM [(0,some 0),(1,some 1),(2,none)] ⟨rfl,⟨_,rfl,uL rfl⟩,rfl,trivial⟩
  rintro j ⟨j1,j2⟩
  have ml:(vO t (x.take j)).length<=4096:=by unfold vO;rw [List.length_map,List.length_take];omega
  refine Ob.o ?_;intro y hy;rw [same hy];intro hl2;refine Br.mk (fun q=>?_) (fun q=>?_)
  ·have q:(j:Int) < x.length:=q;obtain ⟨z,hz⟩:∃z,x[j]? =some z:=⟨_,List.getElem?_eq_getElem oM⟩;refine Dr.d ?_;refine Ob.o ?_;intro y' hy';rw [same hy'];refine Ob.o ?_;intro z' hz';have ez:z'=z:=Option.some.inj ((show x[j]? =some z' from hz').symm.trans hz);rw [ez];refine zb.t (zeK t z ht) ?_;refine Ob.mk (by kernel_rfl) ?_;refine Br.mk (fun e=>?_) (fun e=>?_)
   ·have e:¬(kt t z).2=0:=e;have eL:=zkf hz j2 e;have eR:=zkh hx h2 (by rw [eL];exact e);have hb:=bad (e:=(kt t z).2) (by rw [es,eR,eL,if_pos e]);exact ⟨_,.refl,none,hb.1,hb.2⟩
   have e:(kt t z).2=0:=Decidable.not_not.1 e;refine ⟨Pt,ptE,[(kt t z).1],rfl,Ob.o0 ?_⟩;refine ⟨[(kt t z).1],rfl,Ob.o3 ?_⟩;refine Ar.o ?_;exact ⟨j+1,⟨oM,ur hz j2 e⟩,zM [(0,some 0),(1,some 1),(2,some 5)] ⟨rfl,⟨_,rfl,uL rfl⟩,congrArg (fun q=>some (Mem.arr 52 ptE 2 q)) (by unfold vO;rw [List.take_add_one,hz,List.map_append];rfl),trivial⟩,by dsimp only;omega⟩
  have q:¬(j:Int) < x.length:=q;have etx:x.take j=x:=List.take_of_length_le oM;rw [etx] at j2;refine ⟨[[.own 2]],rfl,Ob.o7 ?_⟩;refine Ob.mk ⟨by show _*(24:Int)<=_;rw [yS,List.length_map,List.length_take];simp only [List.length_cons,List.length_nil];omega,by rw [yS,List.length_map,List.length_take];simp only [List.length_cons,List.length_nil];omega,dC⟩ ?_;refine Ar.o ?_
  refine ⟨(i+1)+1,⟨oM,ur hx h2 (zfG j2)⟩,(zdI (sz0:=1) (T0:=76) 2 4 (enc:=ptE) (ys:=vO t (x.take j)) rfl rfl (xs':=ye ((rs.take (i+1)).map (vO t)++[vO t (x.take j)])) (by rw [yS,List.length_append,List.length_append,yS];rfl) (fun z hz=>?_) zhr).trans (zM [(0,some 0),(1,some 4)] ⟨rfl,⟨_,rfl,uL ?_⟩,trivial⟩),by dsimp only;omega⟩
  ·unfold ye at hz;obtain ⟨b,_,rfl⟩:=List.mem_map.1 hz;rfl
  ·rw [etx];rw [List.take_add_one (l:=rs) (i:=i+1),hx,List.map_append];rfl
theorem zxn(rs:List (List Pt))(t:AF)(ht:t.le 100000)(hl:rs.length<=100000):zd Tryz.prog 22 [.sl zw rs,.agg (afE t)] [] (rgE (jh rs t)) []:=(zxx rs t ht hl).plain rfl
def yf(t:AF)(x:List Pt)(j:Nat):List Pt:=vO t (x.take j)++List.replicate (x.length - j) zp
theorem zhs(t:AF)(x:List Pt){j:Nat}(h:j<=x.length):(yf t x j).length=x.length:=by
 unfold yf vO;rw [List.length_append,List.length_map,List.length_take,List.length_replicate];omega
theorem zht{t:AF}{x:List Pt}{j:Nat}{z:Pt}(h:x[j]? =some z):(yf t x j).set j (kt t z).1=yf t x (j+1):=by
 have hj:j < x.length:=(List.getElem?_eq_some_iff.1 h).1;have hl:(vO t (x.take j)).length=j:=by unfold vO;rw [List.length_map,List.length_take];omega
 unfold yf;rw [show x.length - j=(x.length - (j+1))+1 by omega,List.replicate_succ,List.set_append_right _ _ oM,hl,Nat.sub_self,List.set_cons_zero];have e:vO t (x.take (j+1))=vO t (x.take j)++[(kt t z).1]:=by unfold vO;rw [List.take_add_one,h,List.map_append];rfl
 rw [e,List.append_assoc];rfl
def tQ(rs:List (List Pt))(t:AF):Nat->St
 | 0=>⟨[(3,.loc 0 0),(4,.loc 1 0),(5,.loc 2 0),(15,.sl zw rs),(16,i64 (rs.length:Int)),(17,i64 ((0:Nat):Int))],[(0,.box 29 (afE t)),(1,.box 34 [.val (.slice none 0 0)]),(2,.box 35 [i64 0])],3,48,3⟩
 | i+1=>⟨[(3,.loc 0 0),(4,.loc 1 0),(5,.loc 2 0),(15,.sl zw rs),(16,i64 (rs.length:Int)),(17,i64 ((i+1:Nat):Int))],[(0,.box 29 (afE t)),(1,.box 34 [.own 3]),(2,.box 35 [i64 0]),(3,.garr 76 1 (ye ((rs.take (i+1)).map (vO t))))],4,48,3⟩
theorem zhu(rs:List (List Pt))(t:AF)(ht:t.le 100000)(hl:rs.length<=100000)(hs:∀r∈rs,(r.length:Int)<=9223372036854771711):zd Tryz.prog 21 [.sl zw rs,.agg (afE t)] [] (rgE (jh rs t)) []:=by
 refine ziY 2 2 tok mix Tryz.func21 rfl rfl rfl Tryz.func51 rfl rfl ?_;refine ⟨_,_,rfl,?_⟩;refine ⟨_,_,rfl,?_⟩;refine zb.t (zgF rs hs) ?_;refine Br.mk (fun k=>?_) (fun k=>?_)
 ·have k:¬qg rs:=k;exact qT (by unfold jh;rw [if_pos k])
 have k:qg rs:=Decidable.not_not.1 k;have es:jh rs t=if zb7 t rs≠0 then ([],zb7 t rs) else (rs.map (vO t),0):=by unfold jh;rw [zV k]
 have hc:kN rs<=4096:=by have:=k.1;omega
 refine ⟨_,_,_,_,_,rfl,rfl,rfl,rfl,?_⟩;refine ⟨_,rfl,rfl,rfl,?_⟩;intro hl1;refine ⟨Nat,tQ rs t,fun i=>i<=rs.length/\∀r∈rs.take i,zaH t r=0,fun i=>rs.length - i,0,⟨Nat.zero_le _,fun r hr=>by cases hr⟩,?_,?_⟩
 ·exact zh [(0,some 0),(1,some 1),(2,some 2)]
 rintro (_ | i) ⟨h1,h2⟩
 ·refine Br.mk (fun g=>?_) (fun g=>?_);rotate_left
  ·have g:¬(((0:Nat):Int)) < rs.length:=g;have e0:rs=[]:=List.eq_nil_of_length_eq_zero oM;refine ⟨_,.refl,rfl,?_⟩;refine Br.mk (fun h=>absurd rfl h) (fun _=>?_);exact qT (by rw [es,e0];rfl)
  have g:((0:Nat):Int) < rs.length:=g;obtain ⟨x,hx⟩:∃x,rs[0]? =some x:=⟨_,List.getElem?_eq_getElem oM⟩;have hxl:=Nat.le_trans (uK (List.mem_of_getElem? hx)) hc;refine Ob.o ?_;intro y hy;have ey:y=x:=Option.some.inj ((show rs[0]? =some y from hy).symm.trans hx);rw [ey];intro hl2;refine ⟨Pt,ptE,zp,rfl,Ob.mk ⟨dC,oM,oM,(by show (x.length:Int)*16<=_;omega),oM⟩ ?_⟩;intro hl3
  refine ⟨Nat,fun j=>⟨[(3,.loc 0 0),(4,.loc 1 0),(5,.loc 2 0),(8,.own 3),(15,.sl zw rs),(16,i64 (rs.length:Int)),(17,i64 ((0:Nat):Int)),(24,.sl ptE x),(25,i64 (x.length:Int)),(26,i64 (j:Int))],[(0,.box 29 (afE t)),(1,.box 34 [.val (.slice none 0 0)]),(2,.box 35 [i64 0]),(3,.arr 52 ptE 2 (yf t x j))],4,48,3⟩,fun j=>j<=x.length/\∀p∈x.take j,(kt t p).2=0,fun j=>x.length - j,0,⟨Nat.zero_le _,fun p hp=>by cases hp⟩,?_,?_⟩
  ·exact zM [(0,some 0),(1,some 1),(2,some 2),(3,some 3)] ⟨rfl,rfl,rfl,congrArg (fun q=>some (Mem.arr 52 ptE 2 q)) (by unfold yf;rfl),trivial⟩
  rintro j ⟨j1,j2⟩
  have zl:=zhs t x j1;refine Br.mk (fun q=>?_) (fun q=>?_)
  ·have q:(j:Int) < x.length:=q;refine Ob.o ?_;intro z hz;have hz:x[j]? =some z:=hz;refine zb.t (zcx t z ht) ?_;refine Ob.o ?_;refine Ob.o ?_;intro old _;refine ⟨(kt t z).1,rfl,?_⟩;refine Br.mk (fun e=>?_) (fun e=>?_)
   ·have e:¬(kt t z).2=0:=e;have eL:=zkf hz j2 e;have eR:=zkh hx h2 (by rw [eL];exact e);refine ⟨_,.refl,rfl,?_⟩;refine Br.mk (fun _=>?_) (fun h=>absurd e h);exact qT (by rw [es,eR,eL,if_pos e])
   have e:(kt t z).2=0:=Decidable.not_not.1 e;refine Ar.o ?_;exact ⟨j+1,⟨oM,ur hz j2 e⟩,zM [(0,some 0),(1,some 1),(2,some 2),(3,some 3)] ⟨rfl,rfl,congrArg (fun n=>some (Mem.box 35 [i64 n])) e,congrArg (fun q=>some (Mem.arr 52 ptE 2 q)) (zht hz),trivial⟩,by dsimp only;omega⟩
  have q:¬(j:Int) < x.length:=q;have etx:x.take j=x:=List.take_of_length_le oM;have ez:yf t x j=vO t x:=by unfold yf;rw [etx,show x.length - j=0 by omega];exact List.append_nil _
  rw [etx] at j2;refine ⟨[[.own 3]],rfl,Ob.o7 ?_⟩;refine Ob.o28 ?_;refine Ar.o ?_;refine ⟨0+1,⟨oM,ur hx h2 (zfG j2)⟩,(zdI (sz0:=1) (T0:=76) 3 5 (enc:=ptE) (ys:=yf t x j) rfl rfl (xs':=ye ([]++[yf t x j])) (by rfl) (fun z hz=>?_) zhr).trans (zM [(0,some 0),(1,some 1),(2,some 2),(3,some 5)] ⟨rfl,rfl,rfl,⟨_,rfl,uL ?_⟩,trivial⟩),by dsimp only;omega⟩
  ·unfold ye at hz;obtain ⟨b,_,rfl⟩:=List.mem_map.1 hz;rfl
  ·rw [ez];rw [List.take_add_one,hx];rfl
 ·refine Br.mk (fun g=>?_) (fun g=>?_);rotate_left
  ·have g:¬((i+1:Nat):Int) < rs.length:=g;have et:rs.take (i+1)=rs:=List.take_of_length_le oM;have h3:=h2;rw [et] at h3;have er:jh rs t=(rs.map (vO t),0):=by rw [es,zkg h3];rfl
   refine ⟨_,zgk 3 zw ((rs.take (i+1)).map (vO t)) rfl (fun _ _=>rfl),rfl,?_⟩;refine Br.mk (fun h=>absurd rfl h) (fun _=>?_);rw [er];exact zS (qb (show (rs.take (i+1)).map (vO t)=rs.map (vO t) by rw [et])) .refl
  have g:(((i+1):Nat):Int) < rs.length:=g;obtain ⟨x,hx⟩:∃x,rs[(i+1)]? =some x:=⟨_,List.getElem?_eq_getElem oM⟩;have hxl:=Nat.le_trans (uK (List.mem_of_getElem? hx)) hc;refine Ob.o ?_;intro y hy;have ey:y=x:=Option.some.inj ((show rs[(i+1)]? =some y from hy).symm.trans hx);rw [ey];intro hl2;refine ⟨Pt,ptE,zp,rfl,Ob.mk ⟨dC,oM,oM,(by show (x.length:Int)*16<=_;omega),oM⟩ ?_⟩;intro hl3
  refine ⟨Nat,fun j=>⟨[(3,.loc 0 0),(4,.loc 1 0),(5,.loc 2 0),(8,.own 4),(15,.sl zw rs),(16,i64 (rs.length:Int)),(17,i64 (((i+1):Nat):Int)),(24,.sl ptE x),(25,i64 (x.length:Int)),(26,i64 (j:Int))],[(0,.box 29 (afE t)),(1,.box 34 [.own 3]),(2,.box 35 [i64 0]),(3,.garr 76 1 (ye ((rs.take (i+1)).map (vO t)))),(4,.arr 52 ptE 2 (yf t x j))],5,48,3⟩,fun j=>j<=x.length/\∀p∈x.take j,(kt t p).2=0,fun j=>x.length - j,0,⟨Nat.zero_le _,fun p hp=>by cases hp⟩,?_,?_⟩
  ·exact zM [(0,some 0),(1,some 1),(2,some 2),(3,some 3),(4,some 4)] ⟨rfl,rfl,rfl,⟨_,rfl,uL rfl⟩,congrArg (fun q=>some (Mem.arr 52 ptE 2 q)) (by unfold yf;rfl),trivial⟩
  rintro j ⟨j1,j2⟩
  have zl:=zhs t x j1;refine Br.mk (fun q=>?_) (fun q=>?_)
  ·have q:(j:Int) < x.length:=q;refine Ob.o ?_;intro z hz;have hz:x[j]? =some z:=hz;refine zb.t (zcx t z ht) ?_;refine Ob.o ?_;refine Ob.o ?_;intro old _;refine ⟨(kt t z).1,rfl,?_⟩;refine Br.mk (fun e=>?_) (fun e=>?_)
   ·have e:¬(kt t z).2=0:=e;have eL:=zkf hz j2 e;have eR:=zkh hx h2 (by rw [eL];exact e);refine ⟨_,.refl,rfl,?_⟩;refine Br.mk (fun _=>?_) (fun h=>absurd e h);exact qT (by rw [es,eR,eL,if_pos e])
   have e:(kt t z).2=0:=Decidable.not_not.1 e;refine Ar.o ?_;exact ⟨j+1,⟨oM,ur hz j2 e⟩,zM [(0,some 0),(1,some 1),(2,some 2),(3,some 3),(4,some 4)] ⟨rfl,rfl,congrArg (fun n=>some (Mem.box 35 [i64 n])) e,⟨_,rfl,uL rfl⟩,congrArg (fun q=>some (Mem.arr 52 ptE 2 q)) (zht hz),trivial⟩,by dsimp only;omega⟩
  have q:¬(j:Int) < x.length:=q;have etx:x.take j=x:=List.take_of_length_le oM;have ez:yf t x j=vO t x:=by unfold yf;rw [etx,show x.length - j=0 by omega];exact List.append_nil _
  rw [etx] at j2;refine ⟨[[.own 4]],rfl,Ob.o7 ?_⟩;refine Ob.mk ⟨by show _*(24:Int)<=_;rw [yS,List.length_map,List.length_take];simp only [List.length_cons,List.length_nil];omega,by rw [yS,List.length_map,List.length_take];simp only [List.length_cons,List.length_nil];omega,dC⟩ ?_;refine Ar.o ?_
  refine ⟨(i+1)+1,⟨oM,ur hx h2 (zfG j2)⟩,(zdI (sz0:=1) (T0:=76) 4 6 (enc:=ptE) (ys:=yf t x j) rfl rfl (xs':=ye ((rs.take (i+1)).map (vO t)++[yf t x j])) (by rw [yS,List.length_append,List.length_append,yS];rfl) (fun z hz=>?_) zhr).trans (zM [(0,some 0),(1,some 1),(2,some 2),(3,some 6)] ⟨rfl,rfl,rfl,⟨_,rfl,uL ?_⟩,trivial⟩),by dsimp only;omega⟩
  ·unfold ye at hz;obtain ⟨b,_,rfl⟩:=List.mem_map.1 hz;rfl
  ·rw [ez];rw [List.take_add_one (l:=rs) (i:=i+1),hx,List.map_append];rfl
theorem zsE{p:Pl}{pen:Pen}:∀r∈qa p pen,0 < r.length:=by
 intro r hr;unfold qa at hr
 rcases List.mem_append.1 hr with hr | hr
 ·rcases List.mem_append.1 hr with hr | hr
  ·rw [zaD] at hr
   rcases List.mem_append.1 hr with hr | hr
   ·unfold zj4 at hr;obtain ⟨i,_,hr⟩:=List.mem_flatMap.1 hr;exact zaC hr
   ·split at hr
    ·exact zaC hr
    ·cases hr
  ·rw [zb3] at hr
   split at hr
   ·cases hr
   ·unfold y9 at hr;obtain ⟨i,_,hr⟩:=List.mem_flatMap.1 hr;unfold zfb at hr
    split at hr
    ·cases hr
    ·exact zoz r hr
 ·unfold zbj at hr
  split at hr
  ·exact zaC hr
  ·split at hr
   ·rcases List.mem_append.1 hr with hr | hr <;> exact zaC hr
   ·cases hr
theorem znq{p:Pl}{pen:Pen}:∀r∈(kA p pen).1,0 < r.length:=by
 unfold kA
 split
 ·intro r hr;cases hr
 split
 ·intro r hr;cases hr
 split
 ·intro r hr;cases hr
 split
 ·intro r hr;cases hr
 split
 ·intro r hr;cases hr
 ·exact zsE
theorem zfe{pen:Pen}:∀{l:List Pl},∀r∈(ko l pen).1,0 < r.length
 | [],r,hr=>by cases hr
 | p::s,r,hr=>by
  unfold ko at hr
  split at hr
  ·cases hr
  split at hr
  ·cases hr
  rcases List.mem_append.1 hr with hr | hr
  ·exact znq r hr
  ·exact zfe r hr
theorem zsF:∀{rs:List (List Pt)},(∀r∈rs,0 < r.length)->rs.length<=kN rs
 | [],_=>Nat.zero_le _
 | r::s,h=>by
  have h1:=h r (.head _);have h2:=zsF fun q hq=>h q (.tail _ hq)
  rw [vL,List.length_cons];omega
theorem zb8(l:List Pl)(pen:Pen):(kQ l pen).1.length<=4096/\∀r∈(kQ l pen).1,(r.length:Int)<=9223372036854771711:=by
 unfold kQ
 split
 ·exact ⟨Nat.zero_le _,fun r hr=>by cases hr⟩
 split
 ·exact ⟨Nat.zero_le _,fun r hr=>by cases hr⟩
 split
 ·exact ⟨Nat.zero_le _,fun r hr=>by cases hr⟩
 ·rename_i h;have hg:=zsF (zfe (l:=l) (pen:=pen));exact ⟨by dsimp only;omega,fun r hr=>by have hr:r∈(ko l pen).1:=hr;have:=uK hr;omega⟩
theorem zff{pen:Pen}:∀{l:List Pl},(∀p∈l,p.pts.length<=4096)->(qF l pen).1.length<=4096*l.length/\∀q∈(qF l pen).1,q.pts.length<=4096
 | [],_=>⟨Nat.le_refl 0,fun q hq=>by cases hq⟩
 | p::r,hl=>by
  obtain ⟨i1,i2⟩:=zff (pen:=pen) (l:=r) fun q hq=>hl q (.tail _ hq)
  obtain ⟨f1,f2⟩:=zb6 (pen:=pen) (hl p (.head _));unfold qF
  split
  ·exact ⟨Nat.zero_le _,fun q hq=>by cases hq⟩
  split
  ·exact ⟨Nat.zero_le _,fun q hq=>by cases hq⟩
  ·rw [List.length_append,List.length_cons];refine ⟨oM,fun q hq=>?_⟩
   rcases List.mem_append.1 hq with hq | hq
   ·exact f2 q hq
   ·exact i2 q hq
def jf(l:List Sg)(pen:Pen)(t:AF)(tol:Int):List (List Pt)×Int:=
 if ¬k8 pen then ([],13) else if (zI l tol).2≠0 then ([],(zI l tol).2) else if (qF (zI l tol).1 pen).2≠0 then ([],(qF (zI l tol).1 pen).2)
 else if (kQ (qF (zI l tol).1 pen).1 pen).2≠0 then ([],(kQ (qF (zI l tol).1 pen).1 pen).2) else jh (kQ (qF (zI l tol).1 pen).1 pen).1 t
theorem zcG(l:List Sg)(pen:Pen)(t:AF)(tol:Int)(ht:t.le 100000):zd Tryz.prog 16 [.sl sgE l,.agg (yi pen),.agg (afE t),i64 tol] [] (rgE (jf l pen t tol)) []:=by
 refine zc tok mix Tryz.func16 rfl rfl rfl ?_;have de:=zhq pen;refine zb.t (zoI pen) ?_;refine Br.mk (fun e=>?_) (fun e=>?_)
 ·have e:¬(jt ⟨[],false⟩ pen).2=0:=e;have k:¬k8 pen:=fun k=>e (by rw [de,if_pos k])
  refine qT ?_;rw [de,if_neg k];unfold jf;rw [if_pos k]
 have e:(jt ⟨[],false⟩ pen).2=0:=Decidable.not_not.1 e
 have hk:k8 pen:=by
  refine Decidable.not_not.1 fun k=>?_
  rw [de,if_neg k] at e;exact absurd e dC
 have fs:=v8 l tol;have cf:=zff (pen:=pen) fs.2;refine zb.t (zsa l tol) ?_;refine Br.mk (fun e1=>?_) (fun e1=>?_)
 ·have e1:¬(zI l tol).2=0:=e1;exact qT (by unfold jf;rw [zV hk,if_pos e1])
 have e1:(zI l tol).2=0:=Decidable.not_not.1 e1;refine zb.t (zvI (zI l tol).1 pen fs.1 fs.2) ?_;refine Br.mk (fun e2=>?_) (fun e2=>?_)
 ·have e2:¬(qF (zI l tol).1 pen).2=0:=e2;exact qT (by unfold jf;rw [zV hk,kF e1,if_pos e2])
 have e2:(qF (zI l tol).1 pen).2=0:=Decidable.not_not.1 e2;refine zb.t (zpU (qF (zI l tol).1 pen).1 pen oM cf.2) ?_;have sm:=zb8 (qF (zI l tol).1 pen).1 pen;refine Br.mk (fun e3=>?_) (fun e3=>?_)
 ·have e3:¬(kQ (qF (zI l tol).1 pen).1 pen).2=0:=e3;exact qT (by unfold jf;rw [zV hk,kF e1,kF e2,if_pos e3])
 have e3:(kQ (qF (zI l tol).1 pen).1 pen).2=0:=Decidable.not_not.1 e3;refine zb.t (zhu (kQ (qF (zI l tol).1 pen).1 pen).1 t ht oM sm.2) ?_;have ee:jf l pen t tol=jh (kQ (qF (zI l tol).1 pen).1 pen).1 t:=by unfold jf;rw [zV hk,kF e1,kF e2,kF e3]
 rw [ee];exact .refl
theorem zw7(l:List Sg)(pen:Pen)(t:AF)(tol:Int)(ht:t.le 100000):zd Tryz.prog 17 [.sl sgE l,.agg (yi pen),.agg (afE t),i64 tol] [] (rgE (jf l pen t tol)) []:=by
 refine zc tok mix Tryz.func17 rfl rfl rfl ?_;refine zb.t (zta pen) ?_;refine Br.mk (fun k=>?_) (fun k=>?_)
 ·have k:¬k8 pen:=k;exact qT (by unfold jf;rw [if_pos k])
 have hk:k8 pen:=Decidable.not_not.1 k;have fs:=v8 l tol;have cf:=zff (pen:=pen) fs.2;refine zb.t (zvA l tol) ?_;refine Br.mk (fun e1=>?_) (fun e1=>?_)
 ·have e1:¬(zI l tol).2=0:=e1;exact qT (by unfold jf;rw [zV hk,if_pos e1])
 have e1:(zI l tol).2=0:=Decidable.not_not.1 e1;refine ⟨Nat,fun i=>⟨[(5,.loc 0 0),(6,.loc 1 0),(10,.sl plE (zI l tol).1),(12,.own 2),(13,i64 (i:Int))],[(0,.box 42 (yi pen)),(1,.box 29 (afE t)),(2,.arr 85 plE 2 (zkb ((zI l tol).1.take i) pen))],3,65,0⟩,fun i=>i<=(zI l tol).1.length/\∀q∈(zI l tol).1.take i,(jt q pen).2=0,fun i=>(zI l tol).1.length - i,0,⟨Nat.zero_le _,fun q hq=>by cases hq⟩,?_,?_⟩
 ·exact zh [(0,some 0),(1,some 1),(2,none)]
 rintro i ⟨h1,h2⟩
 obtain ⟨f1,_⟩:=zho (pen:=pen) (l:=(zI l tol).1.take i) fun q hq=>fs.2 q (List.mem_of_mem_take hq)
 rw [List.length_take] at f1;intro hl1;refine Br.mk (fun g=>?_) (fun g=>?_)
 ·have g:(i:Int) < (zI l tol).1.length:=g;refine Dr.d ?_;refine Ob.o ?_;intro x hx;have hx:(zI l tol).1[i]? =some x:=hx;have hpx:=fs.2 x (List.mem_of_getElem? hx);refine zb.t (zxS x pen hpx) ?_;refine Ob.mk (by kernel_rfl) ?_;refine Br.mk (fun z=>?_) (fun z=>?_)
  ·have z:¬(jt x pen).2=0:=z;have ce:=ziW hx h2 z;exact qT (by unfold jf;rw [zV hk,kF e1,ce];exact if_pos z)
  have z:(jt x pen).2=0:=Decidable.not_not.1 z;obtain ⟨s1,s2⟩:=zb6 (pen:=pen) hpx;refine ⟨(jt x pen).1,rfl,Ob.o26 ?_⟩;refine Ar.o ?_;exact ⟨i+1,⟨oM,zhi hx h2 z⟩,zM [(0,some 0),(1,some 1),(2,some 3)] ⟨rfl,rfl,congrArg (fun q=>some (Mem.arr 85 plE 2 q)) (zp0 hx).symm,trivial⟩,by dsimp only;omega⟩
 have g:¬(i:Int) < (zI l tol).1.length:=g;have et:(zI l tol).1.take i=(zI l tol).1:=List.take_of_length_le oM;rw [et] at h2;have co:=zmh h2;have c1:(qF (zI l tol).1 pen).1=zkb ((zI l tol).1.take i) pen:=by rw [co,et]
 have c2:(qF (zI l tol).1 pen).2=0:=by rw [co]
 have ee:jf l pen t tol=if (kQ (zkb ((zI l tol).1.take i) pen) pen).2≠0 then ([],(kQ (zkb ((zI l tol).1.take i) pen) pen).2) else jh (kQ (zkb ((zI l tol).1.take i) pen) pen).1 t:=by
  unfold jf;rw [zV hk,kF e1,kF c2,c1]
 rw [c1] at cf;refine zb.see 2 _ (zwW (zkb ((zI l tol).1.take i) pen) pen oM cf.2) rfl rfl rfl ?_;have sm:=zb8 (zkb ((zI l tol).1.take i) pen) pen;refine Br.mk (fun e3=>?_) (fun e3=>?_)
 ·have e3:¬(kQ (zkb ((zI l tol).1.take i) pen) pen).2=0:=e3;exact qT (by rw [ee,if_pos e3])
 have e3:(kQ (zkb ((zI l tol).1.take i) pen) pen).2=0:=Decidable.not_not.1 e3;rw [kF e3] at ee;refine zb.t (zxn (kQ (zkb ((zI l tol).1.take i) pen) pen).1 t ht oM) ?_;rw [ee];exact .refl
def zhv(t:AF):List BR:=[t.a,t.b,t.c,t.d,t.e,t.f]
theorem zoJ(t:AF)(n:Nat):t.le n↔∀x∈zhv t,x.len<=n:=by
 unfold zhv AF.le;simp
instance (t:AF) (n:Nat):Decidable (t.le n):=inferInstanceAs (Decidable (_/\_))
theorem zoK(t:AF):zd Tryz.prog 18 [.agg (afE t)] [] (pr (t.le 12)) []:=by
 refine zc tok mix Tryz.func18 rfl rfl rfl ?_;refine ⟨BR,brE,zhv t,rfl,Ob.o0 ?_⟩;refine ⟨Nat,fun i=>⟨[(3,.own 0),(4,i64 (i:Int))],[(0,.arr 27 brE 4 (zhv t))],1,42,0⟩,fun i=>i<=(zhv t).length/\∀x∈(zhv t).take i,x.len<=12,fun i=>(zhv t).length - i,0,⟨Nat.zero_le _,fun x hx=>by cases hx⟩,?_,?_⟩
 ·exact zh [(0,some 1)]
 rintro i ⟨h1,h2⟩
 intro hl1;refine Br.mk (fun g=>?_) (fun g=>?_)
 ·have g:(i:Int) < (zhv t).length:=g;refine Ob.o ?_;refine Ob.o ?_;intro x hx;have hx:(zhv t)[i]? =some x:=hx;have no:¬x.len<=12->¬t.le 12:=fun h k=>h ((zoJ t 12).1 k x (List.mem_of_getElem? hx))
  intro hl2;refine Br.mk (fun b=>?_) (fun b=>?_)
  ·have b:(12:Int) < x.num.mag.length:=b;exact ze (no (by unfold BR.len;omega))
  have b:¬(12:Int) < x.num.mag.length:=b;refine Ob.o ?_;refine Ob.o ?_;intro x' hx';have ex:x'=x:=Option.some.inj ((show (zhv t)[i]? =some x' from hx').symm.trans hx);rw [ex];intro hl3;refine Br.mk (fun c=>?_) (fun c=>?_)
  ·have c:(12:Int) < x.den.mag.length:=c;exact ze (no (by unfold BR.len;omega))
  have c:¬(12:Int) < x.den.mag.length:=c;refine Ar.o ?_;exact ⟨i+1,⟨oM,ur hx h2 (by unfold BR.len;omega)⟩,zh [(0,some 0)],by dsimp only;omega⟩
 ·have g:¬(i:Int) < (zhv t).length:=g;rw [List.take_of_length_le oM] at h2;exact kC ((zoJ t 12).2 h2)
def zhw(l:List Sg)(t:AF):Prop:=(l.length<=24∨256 < l.length)/\l.length < 300/\t.le 12
instance (l:List Sg) (t:AF):Decidable (zhw l t):=inferInstanceAs (Decidable (_/\_))
theorem zki(l:List Sg)(t:AF):zd Tryz.prog 11 [.sl sgE l,.agg (afE t)] [] (pr (zhw l t)) []:=by
 refine zc tok mix Tryz.func11 rfl rfl rfl ?_;intro hl1;refine Br.mk (fun a=>?_) (fun a=>?_)
 ·have a:(l.length:Int)<=24:=a;intro hl2;refine Br.mk (fun b=>?_) (fun b=>absurd (show (l.length:Int) < 300 by omega) b);refine zb.t (zoK t) ?_;exact kZ ⟨fun h=>⟨.inl oM,oM,h⟩,fun h=>h.2.2⟩
 have a:¬(l.length:Int)<=24:=a;intro hl2;refine Br.mk (fun c=>?_) (fun c=>?_)
 ·have c:(256:Int) < l.length:=c;intro hl3;refine Br.mk (fun b=>?_) (fun b=>?_)
  ·have b:(l.length:Int) < 300:=b;refine zb.t (zoK t) ?_;exact kZ ⟨fun h=>⟨.inr oM,oM,h⟩,fun h=>h.2.2⟩
  ·have b:¬(l.length:Int) < 300:=b;exact ze fun h=>b (by have:=h.2.1;omega)
 ·have c:¬(256:Int) < l.length:=c;exact ze fun h=>by have:=h.1;omega
theorem zt2(x y:BR)(hx:x.len<=1000)(hy:y.len<=1000):zd Tryz.prog 55 [.agg (brE x),.agg (brE y)] [] (.agg (afE (afQ ((1:Int):Rat) ((0:Int):Rat) ((0:Int):Rat) ((1:Int):Rat) x.v y.v))) []:=by
 refine zc tok mix Tryz.func55 rfl rfl rfl ?_;refine zb.t (zbf 1 0 0 1 x y dC dC dC dC oM oM) ?_;exact .refl
def zsJ(rs:List (List Pt))(lo hi:Pt):Prop:=∀r∈rs,∀p∈r,inB lo hi p
instance (lo hi p:Pt):Decidable (inB lo hi p):=inferInstanceAs (Decidable (_/\_))
instance (rs:List (List Pt)) (lo hi:Pt):Decidable (zsJ rs lo hi):=inferInstanceAs (Decidable (∀_∈_,_))
theorem zef(rs:List (List Pt))(lo hi:Pt):zd Tryz.prog 31 [.sl zw rs,.agg (ptE lo),.agg (ptE hi)] [] (pr (zsJ rs lo hi)) []:=by
 refine zc tok mix Tryz.func31 rfl rfl rfl ?_;intro hl1;refine ⟨Nat,fun i=>⟨[(0,.sl zw rs),(4,.loc 0 0),(5,.loc 1 0),(11,i64 (rs.length:Int)),(12,i64 (i:Int))],[(0,.box 52 (ptE lo)),(1,.box 52 (ptE hi))],2,52,0⟩,fun i=>i<=rs.length/\∀r∈rs.take i,∀p∈r,inB lo hi p,fun i=>rs.length - i,0,⟨Nat.zero_le _,fun r hr=>by cases hr⟩,?_,?_⟩
 ·exact zh [(0,some 0),(1,some 1)]
 rintro i ⟨h1,h2⟩
 refine Br.mk (fun g=>?_) (fun g=>?_);rotate_left
 ·have g:¬(i:Int) < rs.length:=g;rw [List.take_of_length_le oM] at h2;exact kC h2
 have g:(i:Int) < rs.length:=g;refine Ob.o ?_;intro x hx;have hx:rs[i]? =some x:=hx;have hm:=List.mem_of_getElem? hx;intro hl2;refine ⟨Nat,fun j=>⟨[(0,.sl zw rs),(4,.loc 0 0),(5,.loc 1 0),(11,i64 (rs.length:Int)),(12,i64 (i:Int)),(18,.sl ptE x),(19,i64 (x.length:Int)),(20,i64 (j:Int))],[(0,.box 52 (ptE lo)),(1,.box 52 (ptE hi))],2,52,0⟩,fun j=>j<=x.length/\∀p∈x.take j,inB lo hi p,fun j=>x.length - j,0,⟨Nat.zero_le _,fun p hp=>by cases hp⟩,?_,?_⟩
 ·exact zh [(0,some 0),(1,some 1)]
 rintro j ⟨j1,j2⟩
 refine Br.mk (fun q=>?_) (fun q=>?_);rotate_left
 ·have q:¬(j:Int) < x.length:=q;rw [List.take_of_length_le oM] at j2;refine Ar.o ?_;exact ⟨i+1,⟨oM,ur hx h2 j2⟩,zh [(0,some 0),(1,some 1)],by dsimp only;omega⟩
 have q:(j:Int) < x.length:=q;refine Ob.o ?_;intro z hz;have hz:x[j]? =some z:=hz;have no:¬inB lo hi z->¬zsJ rs lo hi:=fun h k=>h (k x hm z (List.mem_of_getElem? hz))
 refine Br.mk (fun a=>?_) (fun a=>?_)
 ·have a:z.x < lo.x:=a;exact ze (no fun h=>by have:=h.1.1;omega)
 have a:¬z.x < lo.x:=a;refine Br.mk (fun b=>?_) (fun b=>?_)
 ·have b:z.y < lo.y:=b;exact ze (no fun h=>by have:=h.2.1;omega)
 have b:¬z.y < lo.y:=b;refine Br.mk (fun c=>?_) (fun c=>?_)
 ·have c:hi.x < z.x:=c;exact ze (no fun h=>by have:=h.1.2;omega)
 have c:¬hi.x < z.x:=c;refine Br.mk (fun d=>?_) (fun d=>?_)
 ·have d:hi.y < z.y:=d;exact ze (no fun h=>by have:=h.2.2;omega)
 have d:¬hi.y < z.y:=d;refine Ar.o ?_;exact ⟨j+1,⟨oM,ur hz j2 ⟨⟨oM,oM⟩,oM,oM⟩⟩,zh [(0,some 0),(1,some 1)],by dsimp only;omega⟩
end Go.Gs
