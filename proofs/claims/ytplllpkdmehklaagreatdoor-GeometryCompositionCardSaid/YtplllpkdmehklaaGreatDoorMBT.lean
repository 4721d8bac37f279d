/- node.Check: the fields of a shape, of the kind; the code of the first error. -/
import Derived.Test.YtplllpkdmehklaaGreatDoorMA
import Derived.Test.YtplllpkdmehklaaGreatDoorMBS
set_option maxRecDepth 100000
set_option maxHeartbeats 8000000
set_option linter.all false
namespace Go.Gs
open Go.Proofs
def zm2(n:Nd):Er:=zaF [kJ (¬qq n.path) 10,kJ (¬zcn n.rule) 2,kJ (1 < n.fill.length∨1 < n.strk.length) 5,kJ (0 < n.strk.length/\¬qa n.pen) 13,kJ (n.strk.length=0/\¬yT n.pen) 17,kJ (¬uh n.fill∨¬uh n.strk) 16]
theorem zzX(n:Nd)(h1:zdx n.fill)(h2:zdx n.strk):zd Tryz.prog 221 [.agg (ndE n)] [] (.op (erV (zm2 n))) []:=by
 refine zc tok mix Tryz.func221 rfl rfl rfl ?_;intro hl1;refine Dr.d ?_;refine zb.t (zhO n.path) ?_;refine zb.t (yn (¬qq n.path) 10) ?_;refine zb.t (zxG n.rule) ?_;refine zb.t (yn (¬zcn n.rule) 2) ?_;intro hl2;refine Br.mk (fun a1=>?_) (fun a1=>?_);rotate_left;intro hl3
 all_goals refine zb.t ((yn (1 < n.fill.length∨1 < n.strk.length) 5).args (.cons (by first | exact zP (.inl oM) | exact zF (by constructor <;> intro <;> omega)) LEs.refl)) ?_
 all_goals refine Br.mk (fun b1=>?_) (fun b1=>?_)
 all_goals first
  | (refine zb.t (zd2 n.pen) ?_;refine zb.t ((yn (0 < n.strk.length/\¬qa n.pen) 13).args (.cons (zF ⟨fun h=>⟨oM,h⟩,fun k=>k.2⟩) LEs.refl)) ?_)
  | refine zb.t ((yn (0 < n.strk.length/\¬qa n.pen) 13).args (.cons (ze oM) LEs.refl)) ?_
 all_goals refine Br.mk (fun c1=>?_) (fun c1=>?_)
 all_goals first
  | (refine zb.t (zsw n.pen) ?_;refine zb.t ((yn (n.strk.length=0/\¬yT n.pen) 17).args (.cons (zF ⟨fun h=>⟨oM,h⟩,fun k=>k.2⟩) LEs.refl)) ?_)
  | refine zb.t ((yn (n.strk.length=0/\¬yT n.pen) 17).args (.cons (ze oM) LEs.refl)) ?_
 all_goals refine zb.t (zAM n.fill h1) ?_
 all_goals refine Br.mk (fun d1=>?_) (fun d1=>?_)
 all_goals first
  | refine zb.t ((yn (¬uh n.fill∨¬uh n.strk) 16).args (.cons (zP (.inl d1)) LEs.refl)) ?_
  | (refine zb.t (zAM n.strk h2) ?_;refine zb.t ((yn (¬uh n.fill∨¬uh n.strk) 16).args (.cons (zF ⟨.inr,fun k=>k.resolve_left d1⟩) LEs.refl)) ?_)
 all_goals refine ⟨Er,zvw,[kJ (¬qq n.path) 10,kJ (¬zcn n.rule) 2,kJ (1 < n.fill.length∨1 < n.strk.length) 5,kJ (0 < n.strk.length/\¬qa n.pen) 13,kJ (n.strk.length=0/\¬yT n.pen) 17,kJ (¬uh n.fill∨¬uh n.strk) 16],rfl,Ob.o14 ?_⟩
 all_goals refine zb.see 1 _ (zmf [kJ (¬qq n.path) 10,kJ (¬zcn n.rule) 2,kJ (1 < n.fill.length∨1 < n.strk.length) 5,kJ (0 < n.strk.length/\¬qa n.pen) 13,kJ (n.strk.length=0/\¬yT n.pen) 17,kJ (¬uh n.fill∨¬uh n.strk) 16]) rfl rfl rfl ?_
 all_goals refine Ob.mk (by kernel_rfl) ?_
 all_goals exact .refl
def zkn(n:Nd):Er:=if n.k=1 then kJ (¬zjF n.mode) 2 else if n.k=2 then zm2 n else zaF [kJ (¬zeu n.im) 16,kJ (n.smp≠1/\n.smp≠2) 2]
def zjG(n:Nd):Prop:=n.t.le 1000/\zdx n.fill/\zdx n.strk/\n.im.px.length<=9223372036854775807
theorem g_own(n:Nd)(h:zjG n):zd Tryz.prog 164 [.agg (ndE n)] [] (.op (erV (zkn n))) []:=by
 obtain ⟨_,h1,h2,h3⟩:=h;refine zc tok mix Tryz.func164 rfl rfl rfl ?_;refine Br.mk (fun k1=>?_) (fun k1=>?_)
 ·refine zb.t (zB0 n.mode) ?_;refine zb.t (yn (¬zjF n.mode) 2) ?_;rw [zkn,if_pos k1];exact .refl
 refine Br.mk (fun k2=>?_) (fun k2=>?_)
 ·refine zb.t (zzX n h1 h2) ?_;rw [zkn,if_neg k1,if_pos k2];exact .refl
 rw [zkn,if_neg k1,if_neg k2];refine Dr.d ?_;refine zb.t (zlv n.im h3) ?_;refine zb.t (yn (¬zeu n.im) 16) ?_;refine Br.mk (fun b1=>?_) (fun b1=>?_)
 all_goals refine zb.t ((yn (n.smp≠1/\n.smp≠2) 2).args (.cons (by first | exact zF ⟨fun h=>⟨b1,h⟩,fun k=>k.2⟩ | exact ze fun k=>b1 k.1) LEs.refl)) ?_
 all_goals refine ⟨Er,zvw,[kJ (¬zeu n.im) 16,kJ (n.smp≠1/\n.smp≠2) 2],rfl,Ob.o14 ?_⟩
 all_goals refine zb.see 1 _ (zmf [kJ (¬zeu n.im) 16,kJ (n.smp≠1/\n.smp≠2) 2]) rfl rfl rfl ?_
 all_goals refine Ob.mk (by kernel_rfl) ?_
 all_goals exact .refl
def zdy:Er->Int->Int
 | .nil,c=>c
 | .w c u,_=>zdy u c
def zsx:Er->Nat
 | .nil=>0
 | .w _ u=>zsx u+1
def zq0(n:Nd):Er:=match zcp n with
 | .nil=>zkn n
 | .w c u=>.w c u
def cellA:Option (Int×Er)->SV
 | none=>i64 0
 | some (a,_)=>i64 a
def zB5:Option (Int×Er)->SV
 | none=>.val .nilIface
 | some (_,b)=>.op (erV b)
theorem zxJ(n:Nd)(h:zjG n):zd Tryz.prog 117 [.agg (ndE n)] [] (i64 (zdy (zq0 n) 0)) []:=by
 refine zb5 tok Tryz.func117 rfl rfl rfl (zcC.cut tok mix 3 (fun _:Unit=>⟨[(3,.op (erV (zq0 n)))],[],1,20,0⟩) (fun _=>True) ?_ fun _ _=>zcC.vc tok mix ?_)
 ·have hc:=zxI n h.1;have ht:zq0 n=match zcp n with | .nil=>zkn n | .w c u=>.w c u:=rfl
  revert hc ht
  generalize zcp n=e
  cases e with
  | nil=>
   intro hc ht;refine zb.t hc ?_;refine Br.mk (fun _=>?_) (fun k=>absurd rfl k);refine zb.t (g_own n h) ?_;rw [ht];exact ⟨(),trivial,zf [(0,some 0)]⟩
  | w c u=>
   intro hc ht;refine zb.t hc ?_;refine Br.mk (fun k=>by cases k) (fun _=>?_);rw [ht];exact ⟨(),trivial,zf [(0,some 0)]⟩
 ·refine ⟨Er×Int×Option (Int×Er),fun x=>⟨[(4,i64 x.2.1),(3,.op (erV x.1)),(5,.loc 1 0)],[(1,.box 197 [cellA x.2.2,zB5 x.2.2])],2,20,0⟩,fun x=>zdy x.1 x.2.1=zdy (zq0 n) 0,fun x=>zsx x.1,(zq0 n,0,none),rfl,?_,?_⟩
  ·exact zf [(1,some 1)]
  rintro ⟨e,c,o⟩ hI
  cases e with
  | nil=>
   rcases o with _ | ⟨a,b⟩
   ·refine zb.give [1] 0 [.op (erV .nil),.ifc 199 (.loc 0 0)] [(0,.box 197 [i64 0,.val .nilIface])] [(0,.box 197 [i64 0,.val .nilIface])] (bl false) (znV _ _) LEs.refl rfl rfl rfl ⟨⟨_,rfl,rfl,rfl⟩,trivial⟩ rfl ⟨⟨rfl,rfl⟩,trivial⟩ ?_;exact zj hI
   ·refine zb.give [1] 0 [.op (erV .nil),.ifc 199 (.loc 0 0)] [(0,.box 197 [i64 a,.op (erV b)])] [(0,.box 197 [i64 a,.op (erV b)])] (bl false) (znV _ _) LEs.refl rfl rfl rfl ⟨⟨_,rfl,rfl,rfl⟩,trivial⟩ rfl ⟨⟨rfl,rfl⟩,trivial⟩ ?_;exact zj hI
  | w c' u=>
   rcases o with _ | ⟨a,b⟩
   ·refine zb.give [1] 0 [.op (erV (.w c' u)),.ifc 199 (.loc 0 0)] [(0,.box 197 [i64 0,.val .nilIface])] [(0,.box 197 [i64 c',.op (erV u)])] (bl true) (znW c' u _ _) LEs.refl rfl rfl rfl ⟨⟨_,rfl,rfl,rfl⟩,trivial⟩ rfl ⟨⟨rfl,rfl⟩,trivial⟩ ?_;refine Dr.k ?_;exact ⟨(u,c',some (c',u)),hI,zf [(1,some 1)],by dsimp only [zsx];omega⟩
   ·refine zb.give [1] 0 [.op (erV (.w c' u)),.ifc 199 (.loc 0 0)] [(0,.box 197 [i64 a,.op (erV b)])] [(0,.box 197 [i64 c',.op (erV u)])] (bl true) (znW c' u _ _) LEs.refl rfl rfl rfl ⟨⟨_,rfl,rfl,rfl⟩,trivial⟩ rfl ⟨⟨rfl,rfl⟩,trivial⟩ ?_;refine Dr.k ?_;exact ⟨(u,c',some (c',u)),hI,zf [(1,some 1)],by dsimp only [zsx];omega⟩
theorem zjH{p:Prop}[Decidable p]{c:Int}{l:List Er}:zaF (kJ p c::l)=if p then .w 0 (.w c .nil) else zaF l:=by unfold kJ;split <;> rfl
theorem zuq{p:Prop}[Decidable p]{c:Int}:zdy (kJ p c) 0=if p then c else 0:=by unfold kJ;split <;> rfl
theorem zxK{n:Nd}:¬zf1 n↔¬uI n∨¬u5 n:=by
 show ¬(uI n/\u5 n)↔_;exact Decidable.not_and_iff_or_not
theorem zjI{p:Prop}[Decidable p]{c:Int}{l:List Er}:zdy (zaF (kJ p c::l)) 0=if p then c else zdy (zaF l) 0:=by rw [zjH];split <;> rfl
theorem zB6(n:Nd):zdy (zq0 n) 0=yI n:=by
 have hs:zdy (zm2 n) 0=u4 n:=by
  unfold zm2 u4;simp only [zjI];rfl
 have ho:zdy (zkn n) 0=if n.k=1 then (if ¬(1<=n.mode/\n.mode<=13) then 2 else 0) else if n.k=2 then u4 n else if ¬zeu n.im then 16 else if n.smp≠1/\n.smp≠2 then 2 else 0:=by
  unfold zkn
  split
  ·exact zuq
  ·split
   ·exact hs
   ·simp only [zjI];rfl
 have ht:zq0 n=match zcp n with | .nil=>zkn n | .w c u=>.w c u:=rfl
 have hc:yI n=if zpf n then 2 else if zkm n then 6 else if ¬n.t.ok then 5 else if yf n.t=0 then 9 else if ¬qq n.clip then 10 else if ¬uI n∨¬u5 n then 17 else zdy (zkn n) 0:=by
  rw [ho];unfold yI;simp only [zxK];rfl
 rw [hc,ht]
 have hm:zcp n=if zpf n then .w 0 (.w 2 .nil) else if zkm n then .w 0 (.w 6 .nil) else if ¬n.t.ok then .w 0 (.w 5 .nil) else if yf n.t=0 then .w 0 (.w 9 .nil) else if ¬qq n.clip then .w 0 (.w 10 .nil) else if ¬uI n∨¬u5 n then .w 0 (.w 17 .nil) else .nil:=by
  unfold zcp;simp only [zjH];rfl
 rw [hm]
 by_cases h1:zpf n
 ·simp only [if_pos h1];rfl
 simp only [if_neg h1]
 by_cases h2:zkm n
 ·simp only [if_pos h2];rfl
 simp only [if_neg h2]
 by_cases h3:¬n.t.ok
 ·simp only [if_pos h3];rfl
 simp only [if_neg h3]
 by_cases h4:yf n.t=0
 ·simp only [if_pos h4];rfl
 simp only [if_neg h4]
 by_cases h5:¬qq n.clip
 ·simp only [if_pos h5];rfl
 simp only [if_neg h5]
 by_cases h6:¬uI n∨¬u5 n
 ·simp only [if_pos h6];rfl
 simp only [if_neg h6]
theorem zzY(n:Nd)(h:zjG n):zd Tryz.prog 117 [.agg (ndE n)] [] (i64 (yI n)) []:=zB6 n ▸ zxJ n h
def yU(t:AF)(x:List Pt)(j:Nat):List Pt:=zcl t (x.take j)++List.replicate (x.length - j) zp
theorem zjJ(t:AF)(x:List Pt){j:Nat}(h:j<=x.length):(yU t x j).length=x.length:=by
 unfold yU zcl;rw [List.length_append,List.length_map,List.length_take,List.length_replicate];omega
theorem zjK{t:AF}{x:List Pt}{j:Nat}{z:Pt}(h:x[j]? =some z):(yU t x j).set j (kT t z).1=yU t x (j+1):=by
 have hj:j < x.length:=(List.getElem?_eq_some_iff.1 h).1;have hl:(zcl t (x.take j)).length=j:=by unfold zcl;rw [List.length_map,List.length_take];omega
 unfold yU;rw [show x.length - j=(x.length - (j+1))+1 by omega,List.replicate_succ,List.set_append_right _ _ oM,hl,Nat.sub_self,List.set_cons_zero];have e:zcl t (x.take (j+1))=zcl t (x.take j)++[(kT t z).1]:=by unfold zcl;rw [List.take_add_one,h,List.map_append];rfl
 rw [e,List.append_assoc];rfl
def tQ(rs:List (List Pt))(t:AF):Nat->St
 | 0=>⟨[(3,.loc 0 0),(4,.loc 1 0),(5,.loc 2 0),(15,.sl zu rs),(16,i64 (rs.length:Int)),(17,i64 ((0:Nat):Int))],[(0,.box 39 (afE t)),(1,.box 56 [.val (.slice none 0 0)]),(2,.box 40 [i64 0])],3,48,3⟩
 | i+1=>⟨[(3,.loc 0 0),(4,.loc 1 0),(5,.loc 2 0),(15,.sl zu rs),(16,i64 (rs.length:Int)),(17,i64 ((i+1:Nat):Int))],[(0,.box 39 (afE t)),(1,.box 56 [.own 3]),(2,.box 40 [i64 0]),(3,.garr 87 1 (yR ((rs.take (i+1)).map (zcl t))))],4,48,3⟩
theorem zB7(rs:List (List Pt))(t:AF)(ht:t.le 100000)(hl:rs.length<=100000)(hs:∀r∈rs,(r.length:Int)<=9223372036854771711):zd Tryz.prog 158 [.sl zu rs,.agg (afE t)] [] (rgE (vg rs t)) []:=by
 refine zlu 2 2 tok mix Tryz.func158 rfl rfl rfl Tryz.func212 rfl rfl ?_;refine ⟨_,_,rfl,?_⟩;refine ⟨_,_,rfl,?_⟩;refine zb.t (zi9 rs hs) ?_;refine Br.mk (fun k=>?_) (fun k=>?_)
 ·have k:¬kq rs:=k;exact yP (by unfold vg;rw [if_pos k])
 have k:kq rs:=Decidable.not_not.1 k;have es:vg rs t=if zej t rs≠0 then ([],zej t rs) else (rs.map (zcl t),0):=by unfold vg;rw [qo k]
 have hc:qh rs<=4096:=by have:=k.1;omega
 refine ⟨_,_,_,_,_,rfl,rfl,rfl,rfl,?_⟩;refine ⟨_,rfl,rfl,rfl,?_⟩;intro hl1;refine ⟨Nat,tQ rs t,fun i=>i<=rs.length/\∀r∈rs.take i,zds t r=0,fun i=>rs.length - i,0,⟨Nat.zero_le _,fun r hr=>by cases hr⟩,?_,?_⟩
 ·exact zf [(0,some 0),(1,some 1),(2,some 2)]
 rintro (_ | i) ⟨h1,h2⟩
 ·refine Br.mk (fun g=>?_) (fun g=>?_);rotate_left
  ·have g:¬(((0:Nat):Int)) < rs.length:=g;have e0:rs=[]:=List.eq_nil_of_length_eq_zero oM;refine ⟨_,.refl,rfl,?_⟩;refine Br.mk (fun h=>absurd rfl h) (fun _=>?_);exact yP (by rw [es,e0];rfl)
  have g:((0:Nat):Int) < rs.length:=g;obtain ⟨x,hx⟩:∃x,rs[0]? =some x:=⟨_,List.getElem?_eq_getElem oM⟩;have hxl:=Nat.le_trans (zdr (List.mem_of_getElem? hx)) hc;refine Ob.o ?_;intro y hy;have ey:y=x:=Option.some.inj ((show rs[0]? =some y from hy).symm.trans hx);rw [ey];intro hl2;refine ⟨Pt,ptE,zp,rfl,Ob.mk ⟨dC,oM,oM,(by show (x.length:Int)*16<=_;omega),oM⟩ ?_⟩;intro hl3
  refine ⟨Nat,fun j=>⟨[(3,.loc 0 0),(4,.loc 1 0),(5,.loc 2 0),(8,.own 3),(15,.sl zu rs),(16,i64 (rs.length:Int)),(17,i64 ((0:Nat):Int)),(24,.sl ptE x),(25,i64 (x.length:Int)),(26,i64 (j:Int))],[(0,.box 39 (afE t)),(1,.box 56 [.val (.slice none 0 0)]),(2,.box 40 [i64 0]),(3,.arr 63 ptE 2 (yU t x j))],4,48,3⟩,fun j=>j<=x.length/\∀p∈x.take j,(kT t p).2=0,fun j=>x.length - j,0,⟨Nat.zero_le _,fun p hp=>by cases hp⟩,?_,?_⟩
  ·exact zY [(0,some 0),(1,some 1),(2,some 2),(3,some 3)] ⟨rfl,rfl,rfl,congrArg (fun q=>some (Mem.arr 63 ptE 2 q)) (by unfold yU;rfl),trivial⟩
  rintro j ⟨j1,j2⟩
  have zl:=zjJ t x j1;refine Br.mk (fun q=>?_) (fun q=>?_)
  ·have q:(j:Int) < x.length:=q;refine Ob.o ?_;intro z hz;have hz:x[j]? =some z:=hz;refine zb.t (zce t z ht) ?_;refine Ob.o ?_;refine Ob.o ?_;intro old _;refine ⟨(kT t z).1,rfl,?_⟩;refine Br.mk (fun e=>?_) (fun e=>?_)
   ·have e:¬(kT t z).2=0:=e;have eL:=zmX hz j2 e;have eR:=zmY hx h2 (by rw [eL];exact e);refine ⟨_,.refl,rfl,?_⟩;refine Br.mk (fun _=>?_) (fun h=>absurd e h);exact yP (by rw [es,eR,eL,if_pos e])
   have e:(kT t z).2=0:=Decidable.not_not.1 e;refine Ar.o ?_;exact ⟨j+1,⟨oM,vw hz j2 e⟩,zY [(0,some 0),(1,some 1),(2,some 2),(3,some 3)] ⟨rfl,rfl,congrArg (fun n=>some (Mem.box 40 [i64 n])) e,congrArg (fun q=>some (Mem.arr 63 ptE 2 q)) (zjK hz),trivial⟩,by dsimp only;omega⟩
  have q:¬(j:Int) < x.length:=q;have etx:x.take j=x:=List.take_of_length_le oM;have ez:yU t x j=zcl t x:=by unfold yU;rw [etx,show x.length - j=0 by omega];exact List.append_nil _
  rw [etx] at j2;refine ⟨[[.own 3]],rfl,Ob.o12 ?_⟩;refine Ob.mk ⟨by show ((1:Nat):Int)*24<=_;decide,by show 1<=_;decide,dC⟩ ?_;refine Ar.o ?_;refine ⟨0+1,⟨oM,vw hx h2 (zmW j2)⟩,(zb2 (sz0:=1) (T0:=87) 3 5 (enc:=ptE) (ys:=yU t x j) rfl rfl (xs':=yR ([]++[yU t x j])) (by rfl) (fun z hz=>?_) zjx).trans (zY [(0,some 0),(1,some 1),(2,some 2),(3,some 5)] ⟨rfl,rfl,rfl,⟨_,rfl,vR ?_⟩,trivial⟩),by dsimp only;omega⟩
  ·unfold yR at hz;obtain ⟨b,_,rfl⟩:=List.mem_map.1 hz;rfl
  ·rw [ez];rw [List.take_add_one,hx];rfl
 ·refine Br.mk (fun g=>?_) (fun g=>?_);rotate_left
  ·have g:¬((i+1:Nat):Int) < rs.length:=g;have et:rs.take (i+1)=rs:=List.take_of_length_le oM;have h3:=h2;rw [et] at h3;have er:vg rs t=(rs.map (zcl t),0):=by rw [es,zsr h3];rfl
   refine ⟨_,zcY 3 zu ((rs.take (i+1)).map (zcl t)) rfl (fun _ _=>rfl),rfl,?_⟩;refine Br.mk (fun h=>absurd rfl h) (fun _=>?_);rw [er];exact zU (qy (show (rs.take (i+1)).map (zcl t)=rs.map (zcl t) by rw [et])) .refl
  have g:(((i+1):Nat):Int) < rs.length:=g;obtain ⟨x,hx⟩:∃x,rs[(i+1)]? =some x:=⟨_,List.getElem?_eq_getElem oM⟩;have hxl:=Nat.le_trans (zdr (List.mem_of_getElem? hx)) hc;refine Ob.o ?_;intro y hy;have ey:y=x:=Option.some.inj ((show rs[(i+1)]? =some y from hy).symm.trans hx);rw [ey];intro hl2;refine ⟨Pt,ptE,zp,rfl,Ob.mk ⟨dC,oM,oM,(by show (x.length:Int)*16<=_;omega),oM⟩ ?_⟩;intro hl3
  refine ⟨Nat,fun j=>⟨[(3,.loc 0 0),(4,.loc 1 0),(5,.loc 2 0),(8,.own 4),(15,.sl zu rs),(16,i64 (rs.length:Int)),(17,i64 (((i+1):Nat):Int)),(24,.sl ptE x),(25,i64 (x.length:Int)),(26,i64 (j:Int))],[(0,.box 39 (afE t)),(1,.box 56 [.own 3]),(2,.box 40 [i64 0]),(3,.garr 87 1 (yR ((rs.take (i+1)).map (zcl t)))),(4,.arr 63 ptE 2 (yU t x j))],5,48,3⟩,fun j=>j<=x.length/\∀p∈x.take j,(kT t p).2=0,fun j=>x.length - j,0,⟨Nat.zero_le _,fun p hp=>by cases hp⟩,?_,?_⟩
  ·exact zY [(0,some 0),(1,some 1),(2,some 2),(3,some 3),(4,some 4)] ⟨rfl,rfl,rfl,⟨_,rfl,vR rfl⟩,congrArg (fun q=>some (Mem.arr 63 ptE 2 q)) (by unfold yU;rfl),trivial⟩
  rintro j ⟨j1,j2⟩
  have zl:=zjJ t x j1;refine Br.mk (fun q=>?_) (fun q=>?_)
  ·have q:(j:Int) < x.length:=q;refine Ob.o ?_;intro z hz;have hz:x[j]? =some z:=hz;refine zb.t (zce t z ht) ?_;refine Ob.o ?_;refine Ob.o ?_;intro old _;refine ⟨(kT t z).1,rfl,?_⟩;refine Br.mk (fun e=>?_) (fun e=>?_)
   ·have e:¬(kT t z).2=0:=e;have eL:=zmX hz j2 e;have eR:=zmY hx h2 (by rw [eL];exact e);refine ⟨_,.refl,rfl,?_⟩;refine Br.mk (fun _=>?_) (fun h=>absurd e h);exact yP (by rw [es,eR,eL,if_pos e])
   have e:(kT t z).2=0:=Decidable.not_not.1 e;refine Ar.o ?_;exact ⟨j+1,⟨oM,vw hz j2 e⟩,zY [(0,some 0),(1,some 1),(2,some 2),(3,some 3),(4,some 4)] ⟨rfl,rfl,congrArg (fun n=>some (Mem.box 40 [i64 n])) e,⟨_,rfl,vR rfl⟩,congrArg (fun q=>some (Mem.arr 63 ptE 2 q)) (zjK hz),trivial⟩,by dsimp only;omega⟩
  have q:¬(j:Int) < x.length:=q;have etx:x.take j=x:=List.take_of_length_le oM;have ez:yU t x j=zcl t x:=by unfold yU;rw [etx,show x.length - j=0 by omega];exact List.append_nil _
  rw [etx] at j2;refine ⟨[[.own 4]],rfl,Ob.o12 ?_⟩;refine Ob.mk ⟨by show _*(24:Int)<=_;rw [uP,List.length_map,List.length_take];simp only [List.length_cons,List.length_nil];omega,by rw [uP,List.length_map,List.length_take];simp only [List.length_cons,List.length_nil];omega,dC⟩ ?_;refine Ar.o ?_
  refine ⟨(i+1)+1,⟨oM,vw hx h2 (zmW j2)⟩,(zb2 (sz0:=1) (T0:=87) 4 6 (enc:=ptE) (ys:=yU t x j) rfl rfl (xs':=yR ((rs.take (i+1)).map (zcl t)++[yU t x j])) (by rw [uP,List.length_append,List.length_append,uP];rfl) (fun z hz=>?_) zjx).trans (zY [(0,some 0),(1,some 1),(2,some 2),(3,some 6)] ⟨rfl,rfl,rfl,⟨_,rfl,vR ?_⟩,trivial⟩),by dsimp only;omega⟩
  ·unfold yR at hz;obtain ⟨b,_,rfl⟩:=List.mem_map.1 hz;rfl
  ·rw [ez];rw [List.take_add_one (l:=rs) (i:=i+1),hx,List.map_append];rfl
theorem zxL{p:Pl}{pen:Pen}:∀r∈qA p pen,0 < r.length:=by
 intro r hr;unfold qA at hr
 rcases List.mem_append.1 hr with hr | hr
 ·rcases List.mem_append.1 hr with hr | hr
  ·rw [zbD] at hr
   rcases List.mem_append.1 hr with hr | hr
   ·unfold zmQ at hr;obtain ⟨i,_,hr⟩:=List.mem_flatMap.1 hr;exact zbC hr
   ·split at hr
    ·exact zbC hr
    ·cases hr
  ·rw [zdm] at hr
   split at hr
   ·cases hr
   ·unfold vf at hr;obtain ⟨i,_,hr⟩:=List.mem_flatMap.1 hr;unfold zhj at hr
    split at hr
    ·cases hr
    ·exact zsj r hr
 ·unfold zdd at hr
  split at hr
  ·exact zbC hr
  ·split at hr
   ·rcases List.mem_append.1 hr with hr | hr <;> exact zbC hr
   ·cases hr
theorem zq1{p:Pl}{pen:Pen}:∀r∈(qu p pen).1,0 < r.length:=by
 unfold qu
 split
 ·intro r hr;cases hr
 split
 ·intro r hr;cases hr
 split
 ·intro r hr;cases hr
 split
 ·intro r hr;cases hr
 split
 ·intro r hr;cases hr
 ·exact zxL
theorem zho{pen:Pen}:∀{l:List Pl},∀r∈(qB l pen).1,0 < r.length
 | [],r,hr=>by cases hr
 | p::s,r,hr=>by
  unfold qB at hr
  split at hr
  ·cases hr
  split at hr
  ·cases hr
  rcases List.mem_append.1 hr with hr | hr
  ·exact zq1 r hr
  ·exact zho r hr
theorem zxM:∀{rs:List (List Pt)},(∀r∈rs,0 < r.length)->rs.length<=qh rs
 | [],_=>Nat.zero_le _
 | r::s,h=>by
  have h1:=h r (.head _);have h2:=zxM fun q hq=>h q (.tail _ hq)
  rw [zfQ,List.length_cons];omega
theorem zdz(l:List Pl)(pen:Pen):(jh l pen).1.length<=4096/\∀r∈(jh l pen).1,(r.length:Int)<=9223372036854771711:=by
 unfold jh
 split
 ·exact ⟨Nat.zero_le _,fun r hr=>by cases hr⟩
 split
 ·exact ⟨Nat.zero_le _,fun r hr=>by cases hr⟩
 split
 ·exact ⟨Nat.zero_le _,fun r hr=>by cases hr⟩
 ·rename_i h;have hg:=zxM (zho (l:=l) (pen:=pen));exact ⟨by dsimp only;omega,fun r hr=>by have hr:r∈(qB l pen).1:=hr;have:=zdr hr;omega⟩
theorem zhp{pen:Pen}:∀{l:List Pl},(∀p∈l,p.pts.length<=4096)->(jk l pen).1.length<=4096*l.length/\∀q∈(jk l pen).1,q.pts.length<=4096
 | [],_=>⟨Nat.le_refl 0,fun q hq=>by cases hq⟩
 | p::r,hl=>by
  obtain ⟨i1,i2⟩:=zhp (pen:=pen) (l:=r) fun q hq=>hl q (.tail _ hq)
  obtain ⟨f1,f2⟩:=zdp (pen:=pen) (hl p (.head _));unfold jk
  split
  ·exact ⟨Nat.zero_le _,fun q hq=>by cases hq⟩
  split
  ·exact ⟨Nat.zero_le _,fun q hq=>by cases hq⟩
  ·rw [List.length_append,List.length_cons];refine ⟨oM,fun q hq=>?_⟩
   rcases List.mem_append.1 hq with hq | hq
   ·exact f2 q hq
   ·exact i2 q hq
def v9(l:List Sg)(pen:Pen)(t:AF)(tol:Int):List (List Pt)×Int:=
 if ¬qa pen then ([],13) else if (kr l tol).2≠0 then ([],(kr l tol).2) else if (jk (kr l tol).1 pen).2≠0 then ([],(jk (kr l tol).1 pen).2)
 else if (jh (jk (kr l tol).1 pen).1 pen).2≠0 then ([],(jh (jk (kr l tol).1 pen).1 pen).2) else vg (jh (jk (kr l tol).1 pen).1 pen).1 t
theorem zur(l:List Sg)(pen:Pen)(t:AF)(tol:Int)(ht:t.le 100000):zd Tryz.prog 108 [.sl sgE l,.agg (ue pen),.agg (afE t),i64 tol] [] (rgE (v9 l pen t tol)) []:=by
 refine zc tok mix Tryz.func108 rfl rfl rfl ?_;have de:=zqT pen;refine zb.t (zzM pen) ?_;refine Br.mk (fun e=>?_) (fun e=>?_)
 ·have e:¬(yx ⟨[],false⟩ pen).2=0:=e;have k:¬qa pen:=fun k=>e (by rw [de,if_pos k])
  refine yP ?_;rw [de,if_neg k];unfold v9;rw [if_pos k]
 have e:(yx ⟨[],false⟩ pen).2=0:=Decidable.not_not.1 e
 have hk:qa pen:=by
  refine Decidable.not_not.1 fun k=>?_
  rw [de,if_neg k] at e;exact absurd e dC
 have fs:=zdq l tol;have cf:=zhp (pen:=pen) fs.2;refine zb.t (zw9 l tol) ?_;refine Br.mk (fun e1=>?_) (fun e1=>?_)
 ·have e1:¬(kr l tol).2=0:=e1;exact yP (by unfold v9;rw [qo hk,if_pos e1])
 have e1:(kr l tol).2=0:=Decidable.not_not.1 e1;refine zb.t (zBW (kr l tol).1 pen fs.1 fs.2) ?_;refine Br.mk (fun e2=>?_) (fun e2=>?_)
 ·have e2:¬(jk (kr l tol).1 pen).2=0:=e2;exact yP (by unfold v9;rw [qo hk,jQ e1,if_pos e2])
 have e2:(jk (kr l tol).1 pen).2=0:=Decidable.not_not.1 e2;refine zb.t (zub (jk (kr l tol).1 pen).1 pen oM cf.2) ?_;have sm:=zdz (jk (kr l tol).1 pen).1 pen;refine Br.mk (fun e3=>?_) (fun e3=>?_)
 ·have e3:¬(jh (jk (kr l tol).1 pen).1 pen).2=0:=e3;exact yP (by unfold v9;rw [qo hk,jQ e1,jQ e2,if_pos e3])
 have e3:(jh (jk (kr l tol).1 pen).1 pen).2=0:=Decidable.not_not.1 e3;refine zb.t (zB7 (jh (jk (kr l tol).1 pen).1 pen).1 t ht oM sm.2) ?_;have ee:v9 l pen t tol=vg (jh (jk (kr l tol).1 pen).1 pen).1 t:=by unfold v9;rw [qo hk,jQ e1,jQ e2,jQ e3]
 rw [ee];exact .refl
def uj(l:List Nd)(i:Nat):Int:=match l[i]? with
 | some n=>zf2 l i n
 | none=>0
theorem zcq{l:List Nd}{i:Nat}{n:Nd}(h:l[i]? =some n):uj l i=zf2 l i n:=by unfold uj;rw [h]
def zm3(l:List Nd):Option Nat:=(List.range l.length).find? fun i=>decide (uj l i≠0)
theorem zzZ{l:List Nd}{i:Nat}(hi:i < l.length)(h:∀j,j < i->uj l j=0)(hb:uj l i≠0):zm3 l=some i:=by
 unfold zm3;rw [List.find?_range_eq_some];exact ⟨by simpa using hb,List.mem_range.2 hi,fun j hj=>by simpa using h j hj⟩
theorem zus{l:List Nd}(h:∀j,j < l.length->uj l j=0):zm3 l=none:=by
 unfold zm3;rw [List.find?_range_eq_none];exact fun j hj=>by simpa using h j hj
theorem zut{l:List Nd}{i:Nat}(h:zm3 l=some i):i < l.length/\uj l i≠0:=by
 unfold zm3 at h;rw [List.find?_range_eq_some] at h;exact ⟨List.mem_range.1 h.2.1,by simpa using h.1⟩
def zew(s:Sc):Prop:=s.w < 1∨256 < s.w∨s.h < 1∨256 < s.h
instance (s:Sc):Decidable (zew s):=inferInstanceAs (Decidable (_∨_))
def zhz(s:Sc):Int×Int:=if zew s then (6,0) else if 64 < s.ns.length then (5,64) else match zm3 s.ns with
 | some i=>(uj s.ns i,i)
 | none=>(0,0)
def qx(s:Sc):Prop:=(zhz s).1=0
instance (s:Sc):Decidable (qx s):=inferInstanceAs (Decidable (_=_))
theorem zjL{s:Sc}:qx s↔¬zew s/\s.ns.length<=64/\∀j,j < s.ns.length->uj s.ns j=0:=by
 unfold qx zhz
 by_cases h1:zew s
 ·rw [if_pos h1];exact ⟨fun h=>absurd h dC,fun h=>absurd h1 h.1⟩
 rw [if_neg h1]
 by_cases h2:64 < s.ns.length
 ·rw [if_pos h2];exact ⟨fun h=>absurd h dC,fun h=>absurd h.2.1 oM⟩
 rw [if_neg h2]
 cases hb:zm3 s.ns with
 | some i=>
  obtain ⟨h3,h4⟩:=zut hb;exact ⟨fun h=>absurd h h4,fun h=>absurd (h.2.2 i h3) h4⟩
 | none=>
  refine ⟨fun _=>⟨h1,oM,fun j hj=>?_⟩,fun _=>rfl⟩;unfold zm3 at hb;rw [List.find?_range_eq_none] at hb
  simpa using hb j hj
theorem zlB{l:List Nd}{i:Nat}{n:Nd}(h:zf2 l i n=0):yI n=0/\n.id∉(l.take i).map Nd.id/\jq l i n:=by
 unfold zf2 at h
 by_cases h1:yI n≠0
 ·rw [if_pos h1] at h;exact absurd h h1
 rw [if_neg h1] at h
 by_cases h2:n.id∈(l.take i).map Nd.id
 ·rw [if_pos h2] at h;exact absurd h dC
 rw [if_neg h2] at h
 by_cases h3:jq l i n
 ·exact ⟨Decidable.not_not.1 h1,h2,h3⟩
 ·rw [if_pos h3] at h;exact absurd h dC
theorem zdA{n:Nd}(h:yI n=0):(1<=n.k/\n.k<=3)/\(0<=n.d/\n.d < 8)/\n.t.ok/\yf n.t≠0/\qq n.clip/\zf1 n:=by
 unfold yI at h
 by_cases h1:n.k < 1∨3 < n.k
 ·rw [if_pos h1] at h;exact absurd h dC
 rw [if_neg h1] at h
 by_cases h2:n.id < 1∨1073741824 < n.id∨n.d < 0∨8<=n.d
 ·rw [if_pos h2] at h;exact absurd h dC
 rw [if_neg h2] at h
 by_cases h3:¬n.t.ok
 ·rw [if_pos h3] at h;exact absurd h dC
 rw [if_neg h3] at h
 by_cases h4:yf n.t=0
 ·rw [if_pos h4] at h;exact absurd h dC
 rw [if_neg h4] at h
 by_cases h5:¬qq n.clip
 ·rw [if_pos h5] at h;exact absurd h dC
 rw [if_neg h5] at h
 by_cases h6:¬zf1 n
 ·rw [if_pos h6] at h;exact absurd h dC
 exact ⟨oM,oM,Decidable.not_not.1 h3,h4,Decidable.not_not.1 h5,Decidable.not_not.1 h6⟩
theorem zcr{s:Sc}(h:qx s){i:Nat}{n:Nd}(hn:s.ns[i]? =some n):yI n=0/\n.id∉(s.ns.take i).map Nd.id/\jq s.ns i n:=by
 have:=(zjL.1 h).2.2 i (List.getElem?_eq_some_iff.1 hn).1;rw [zcq hn] at this;exact zlB this
def zA(l:List Nd):List Int:=l.map Nd.d
theorem yi{l:List Nd}{i:Nat}{n:Nd}(h:l[i]? =some n):(zA l)[i]? =some n.d:=by unfold zA;rw [List.getElem?_map,h];rfl
theorem vy{l:List Nd}{i:Nat}{d:Int}(h:(zA l)[i]? =some d):∃n,l[i]? =some n/\n.d=d:=by
 unfold zA at h;rw [List.getElem?_map] at h
 cases hn:l[i]? with
 | none=>rw [hn] at h;cases h
 | some n=>rw [hn] at h;exact ⟨n,rfl,Option.some.inj h⟩
theorem zba{s:Sc}(h:qx s):zco (zA s.ns):=by
 refine ⟨fun d hd=>?_,fun d hd=>?_,fun i a b ha hb=>?_⟩
 ·obtain ⟨n,hn,rfl⟩:=vy hd;have:=(zcr h hn).2.2;unfold jq at this;rw [show s.ns[0 - 1]? =some n from hn] at this;exact this
 ·obtain ⟨i,hi,he⟩:=List.getElem_of_mem hd;obtain ⟨n,hn,rfl⟩:=vy (he ▸ List.getElem?_eq_getElem hi);exact (zdA (zcr h hn).1).2.1.1
 ·obtain ⟨n,hn,rfl⟩:=vy ha;obtain ⟨m,hm,rfl⟩:=vy hb;have:=(zcr h hm).2.2;unfold jq at this;rw [show s.ns[i+1 - 1]? =some n from hn] at this;have this:(n.k=1/\m.d=n.d+1)∨m.d<=n.d:=this;omega
theorem zeb(ds:List Int)(i:Nat): -1<=yD ds i/\yD ds i < i:=⟨(zf3 ds _ i).1,(zf3 ds _ i).2.1⟩
theorem zhq(ds:List Int):∀(n m:Nat) (i:Int),i < n->i < m->zeX ds n i=zeX ds m i
 | 0,0,_,_,_=>rfl
 | 0,m+1,i,h,_=>by show []=if i < 0 then [] else _;rw [if_pos oM]
 | n+1,0,i,_,h=>by show (if i < 0 then [] else _)=[];rw [if_pos oM]
 | n+1,m+1,i,h1,h2=>by
  show (if i < 0 then [] else i.toNat::zeX ds n (yD ds i.toNat))=if i < 0 then [] else i.toNat::zeX ds m (yD ds i.toNat)
  by_cases c:i < 0
  ·rw [if_pos c,if_pos c]
  ·have:=zeb ds i.toNat;rw [if_neg c,if_neg c,zhq ds n m _ oM oM]
def qg(ds:List Int)(i:Int):List Nat:=zeX ds (i+1).toNat i
theorem zao{ds:List Int}{i:Int}(h:i < 0):qg ds i=[]:=by
 unfold qg;rw [show (i+1).toNat=0 by omega];rfl
theorem jf(ds:List Int)(i:Nat):qg ds i=i::qg ds (yD ds i):=by
 have h:=zeb ds i;unfold qg;rw [show ((i:Int)+1).toNat=i+1 by omega];show (if (i:Int) < 0 then [] else (i:Int).toNat::zeX ds i (yD ds (i:Int).toNat))=_;rw [if_neg oM,show (i:Int).toNat=i from rfl,zhq ds i (yD ds i+1).toNat _ oM oM]
theorem zbK{ds:List Int}(hs:zco ds):∀{d i:Nat},ds[i]? =some (d:Int)->(qg ds i).length=d+1
 | 0,i,hd=>by
  rw [jf,(zdw hs hd).1 rfl,zao dC];rfl
 | d+1,i,hd=>by
  obtain ⟨j,hj,_,hjd⟩:=(zdw hs hd).2 oM;rw [jf,hj,List.length_cons,zbK (d:=d) hs (by rw [hjd];congr 1;omega)]
def tAt(l:List Nd)(k:Nat):AF:=match l[k]? with
 | some n=>n.t
 | none=>idA
theorem zjN{l:List Nd}{k:Nat}{n:Nd}(h:l[k]? =some n):tAt l k=n.t:=by unfold tAt;rw [h]
def trs(l:List Nd)(i:Int):List AF:=(qg (zA l) i).map (tAt l)
theorem zjO{l:List Nd}{i:Nat}{n:Nd}(h:l[i]? =some n):trs l i=n.t::trs l (yD (zA l) i):=by
 unfold trs;rw [jf,List.map_cons,zjN h]
theorem zm4{l:List Nd}{i:Int}(h:i < 0):trs l i=[]:=by unfold trs;rw [zao h];rfl
def inS(s:Sc)(i:Int):Prop:=qx s/\0<=i/\i < s.ns.length
instance (s:Sc) (i:Int):Decidable (inS s i):=inferInstanceAs (Decidable (_/\_))
def zw(s:Sc)(i:Int):AF×Int:=if ¬qx s then (k7,18) else if i < 0∨s.ns.length<=i then (k7,8) else qt (trs s.ns i)
def zNd:Nd:=⟨0,0,0,k7,[],0,0,0,false,false,[],0,[],⟨0,0,0,0,[],0⟩,[],⟨0,0,[]⟩,0⟩
def zE(s:Sc)(i:Int):Nd:=if inS s i then (s.ns[i.toNat]?).getD zNd else zNd
def yH(w:AF×Int)(l:List Sg):List (List Pt):=if w.2≠0 then [] else (ym l w.1 32).1
def kK(s:Sc)(i:Int):List (List Pt):=if (zE s i).k≠2∨(zE s i).fill.length=0 then [] else yH (zw s i) (zE s i).path
def qz(s:Sc)(i:Int):List (List Pt):=if (zE s i).k≠2∨(zE s i).strk.length=0 then [] else if (zw s i).2≠0 then [] else (v9 (zE s i).path (zE s i).pen (zw s i).1 32).1
def yj(s:Sc)(i:Int):List (List Pt):=if (zE s i).k≠3 then [] else yH (zw s i) (ve 0 0 (zE s i).im.w (zE s i).im.h)
def jR(s:Sc)(i:Int):List (List Pt):=if (zE s i).clip.length=0 then [] else yH (zw s i) (zE s i).clip
theorem zpg{l:List Sg}{t:AF}{tol:Int}(h:(ym l t tol).2≠0):(ym l t tol).1=[]:=by
 unfold ym at h ⊢
 by_cases h1:(trans t l).2≠0
 ·rw [if_pos h1]
 rw [if_neg h1] at h ⊢
 by_cases h2:(kr (trans t l).1 tol).2≠0
 ·rw [if_pos h2]
 rw [if_neg h2] at h;exact absurd rfl h
end Go.Gs
