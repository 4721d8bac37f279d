/- A path under a transform, the other text's; the law. -/
import Derived.Test.YtbgnkgoiocjbnaaGreatMA
import Derived.Test.YtbgnkgoiocjbnaaGreatMBD
import Derived.Test.YtbgnkgoiocjbnaaGreatMBQ
import Derived.Test.YtbgnkgoiocjbnaaGreatMBG
import Derived.Defers
import Derived.Test.YtbgnkgoiocjbnaaGreatMBB
set_option maxRecDepth 100000
set_option maxHeartbeats 8000000
set_option linter.all false
namespace Go.Gs
open Go.Proofs
theorem zeK(t:AF)(p:Pt)(ht:t.le 100000):zd Tryz.prog 53 [.agg (afE t),.agg (ptE p)] [] (.tup [.agg (ptE (kt t p).1),i64 (kt t p).2]) []:=by
 obtain ⟨ha,hb,hc,hd,he,hf⟩:=ht;refine zc tok mix Tryz.func53 rfl rfl rfl ?_;have fin:∀(q:Pt) (n:Int),(kt t p)=(q,n)->LE (.tup [.agg (ptE q),i64 n]) (.tup [.agg (ptE (kt t p).1),i64 (kt t p).2]):=fun q n h=>by rw [h];exact .refl
 refine zb.t (zaG t ⟨oM,oM,oM,oM,oM,oM⟩) ?_;refine Br.mk (fun h1=>?_) (fun h1=>?_)
 ·exact fin zp 5 (by rw [kt,if_pos h1])
 refine zb.t (yG p) ?_;refine Br.mk (fun h2=>?_) (fun h2=>?_)
 ·exact fin zp 6 (by rw [kt,if_neg h1,if_pos h2])
 have hp:zo p:=Classical.byContradiction h2;have hx:R64 p.x:=by unfold R64;unfold zo at hp;omega
 have hy:R64 p.y:=by unfold R64;unfold zo at hp;omega
 have lx:=uF p.x;have ly:=uF p.y;have zx:=jq hx;have zy:=jq hy;refine Dr.k ?_;refine zb.t (jc p.x hx) ?_;refine zb.t (jc p.y hy) ?_;refine zb.t (zp2 t (ofQ (p.x:Rat)) (ofQ (p.y:Rat)) ⟨oM,oM,oM,oM,oM,oM⟩ (by rw [zJ];omega) (by rw [zJ];omega)) ?_;rw [kE,kE];have lX:=qo t.a (ofQ (p.x:Rat)) t.c (ofQ (p.y:Rat)) t.e (n:=100000) ha (by rw [zJ];omega) hc (by rw [zJ];omega) he;have lY:=qo t.b (ofQ (p.x:Rat)) t.d (ofQ (p.y:Rat)) t.f (n:=100000) hb (by rw [zJ];omega) hd (by rw [zJ];omega) hf;rw [kE,kE] at lX lY
 have lh:y5 (Rat.divInt 1 2)<=1:=by decide +kernel
 have mX:=zay (jX t p.x p.y) (Rat.divInt 1 2);have mY:=zay (jY t p.x p.y) (Rat.divInt 1 2);have lX2:y5 (jX t p.x p.y)<=500007:=lX.2;have lY2:y5 (jY t p.x p.y)<=500007:=lY.2
 have fl:∀q:Rat,je q.floor<=y5 q:=fun q=>Nat.le_trans (zat (by
  rw [Rat.floor_def]
  exact Int.natAbs_ediv_le_natAbs _ _)) (jb q)
 have fX:=fl (jX t p.x p.y+Rat.divInt 1 2);have fY:=fl (jY t p.x p.y+Rat.divInt 1 2);refine zb.t (zls 1 2 dC dC dC) ?_;refine zb.t (zda (ofQ (jX t p.x p.y)) (ofQ (Rat.divInt 1 2)) (by rw [zJ];omega) (by rw [zJ];omega)) ?_;rw [kE,kE];refine zb.t (zlt (ofQ (jX t p.x p.y+Rat.divInt 1 2)) (by rw [zJ];omega)) ?_;rw [kE];refine zb.t (zk1 (ofZ (jX t p.x p.y+Rat.divInt 1 2).floor) (by rw [zT];omega)) ?_;refine zb.t (zda (ofQ (jY t p.x p.y)) (ofQ (Rat.divInt 1 2)) (by rw [zJ];omega) (by rw [zJ];omega)) ?_;rw [kE,kE]
 refine zb.t (zlt (ofQ (jY t p.x p.y+Rat.divInt 1 2)) (by rw [zJ];omega)) ?_;rw [kE];refine zb.t (zk1 (ofZ (jY t p.x p.y+Rat.divInt 1 2).floor) (by rw [zT];omega)) ?_;rw [z8,z8];obtain ⟨X,hX⟩:∃X,(jX t p.x p.y+Rat.divInt 1 2).floor=X:=⟨_,rfl⟩;obtain ⟨Y,hY⟩:∃Y,(jY t p.x p.y+Rat.divInt 1 2).floor=Y:=⟨_,rfl⟩;have hg:goP t p=⟨X,Y⟩:=by unfold goP;rw [hX,hY]
 rw [hX,hY];have out:¬zo ⟨X,Y⟩->kt t p=(zp,6):=fun h=>by rw [kt,if_neg h1,if_neg h2,if_neg (by rw [hg];exact h)]
 have inn:zo ⟨X,Y⟩->kt t p=(⟨X,Y⟩,0):=fun h=>by rw [kt,if_neg h1,if_neg h2,if_pos (by rw [hg];exact h),hg]
 have big:zo ⟨X,Y⟩->(-9223372036854775808<=X/\X<=9223372036854775807)/\(-9223372036854775808<=Y/\Y<=9223372036854775807):=fun h=>by unfold zo at h;dsimp only at h;omega
 refine Br.mk (fun h3=>?_) (fun h3=>?_)
 ·exact fin zp 6 (out fun h=>h3 (big h).1)
 have h3:=Classical.byContradiction h3;refine Br.mk (fun h4=>?_) (fun h4=>?_)
 ·exact fin zp 6 (out fun h=>h4 (big h).2)
 have h4:=Classical.byContradiction h4;refine zb.t (yG ⟨yH X,yH Y⟩) ?_;rw [yH,if_pos h3,yH,if_pos h4];refine Br.mk (fun h5=>?_) (fun h5=>?_)
 ·exact fin zp 6 (out h5)
 ·exact fin ⟨X,Y⟩ 0 (inn (Classical.byContradiction h5))
theorem zp3(t:AF){s:Sg}(hf:zbn s):yU t s=ym (fun p=>(kt t p).1) s:=by
 unfold yU;obtain ⟨f1,f2,f3⟩:=hf;have hr:=vC s.v;have k:nm s.v<=0∨nm s.v=1∨nm s.v=2∨nm s.v=3:=oM;unfold zD ym zeZ part
 rcases k with k | k | k | k
 ·rw [show (nm s.v).toNat=0 by omega,f1.2 oM,f2.2 oM,f3.2 oM];rfl
 ·rw [show (nm s.v).toNat=1 by omega,f2.2 oM,f3.2 oM];rfl
 ·rw [show (nm s.v).toNat=2 by omega,f3.2 oM];rfl
 ·rw [show (nm s.v).toNat=3 by omega];rfl
theorem zeL{l:List Sg}{t:AF}(h1:qK l){i:Nat}{x:Sg}{p:Pt}{k:Nat}(h0:qi t (zY (l.take i))=0)(hx:l[i]? =some x)(hk:qi t ((zD x).take k)=0)(hp:(zD x)[k]? =some p)(he:(kt t p).2≠0):kg t l=([],(kt t p).2):=by
 have e2:=(y6 hk hp).2 he
 have e3:qi t (zY l)=(kt t p).2:=by
  have hd:=zfu hx
  have:zY l=zY (l.take i)++(zD x++zY (l.drop (i+1))):=by
   conv=>lhs;rw [← List.take_append_drop i l,hd]
   simp [zY]
  rw [this,qR,h0];simp only [ne_eq,not_true_eq_false,if_false];rw [qR,e2,if_pos he]
 rw [kg,if_neg (fun k=>k h1),e3,if_pos he]
theorem zp4{l:List Sg}{t:AF}{i:Nat}{x:Sg}(h0:qi t (zY (l.take i))=0)(hx:l[i]? =some x)(hk:qi t (zD x)=0):qi t (zY (l.take (i+1)))=0:=by
 rw [uC hx,qR,h0];simpa using hk
theorem zsz(l:List Sg)(t:AF)(ht:t.le 100000):zd Tryz.prog 40 [.sl sgE l,.agg (afE t)] [] (.tup [.sl sgE (kg t l).1,i64 (kg t l).2]) []:=by
 refine zc tok mix Tryz.func40 rfl rfl rfl ?_
 have bad:∀e:Int,kg t l=([],e)->LE (.tup [.val (.slice none 0 0),i64 e]) (.tup [.sl sgE (kg t l).1,i64 (kg t l).2]):=fun e h=>by
  rw [h];exact zS ku .refl
 refine zb.t (zgz l) ?_;refine Br.mk (fun h1=>?_) (fun h1=>?_)
 ·exact bad 10 (by rw [kg,if_pos h1])
 have h:=Decidable.not_not.1 h1;have hvl:=zau h;refine ⟨Sg,sgE,[],rfl,Ob.o2 ?_⟩
 refine ⟨Nat,fun i=>⟨[(7,i64 i),(6,.own 1),(3,.loc 0 0),(0,.sl sgE l)],[(1,.arr 75 sgE 7 ((l.take i).map (yU t))),(0,.box 29 (afE t))],2,67,0⟩,fun i=>i<=l.length/\qi t (zY (l.take i))=0,fun i=>l.length - i,0,⟨Nat.zero_le _,rfl⟩,
  zh [(0,some 0),(1,some 1)],?_⟩
 rintro i ⟨hil0,hi0⟩
 intro _;refine Br.mk (fun g1=>?_) (fun g1=>?_)
 ·have g1:(i:Int) < l.length:=g1;have hx:=List.getElem?_eq_getElem (show i < l.length by omega);generalize l[i]'oM=x at hx;have hf:=zrC h (List.mem_of_getElem? hx);have hnr:=vC x.v;refine Ob.mk ⟨oM,g1⟩ ?_;intro y hy;have hy:l[i]? =some y:=hy;rw [hx] at hy;cases hy
  refine zb.t (zjz x) ?_;have hml:((l.take i).map (yU t)).length<=256:=by simp;omega
  refine ⟨Nat,fun k=>⟨[(9,i64 k),(8,.loc 2 0),(7,i64 i),(6,.own 1),(3,.loc 0 0),(0,.sl sgE l)],[(2,.box 111 (ptE (part (fun p=>(kt t p).1) k x).a++ptE (part (fun p=>(kt t p).1) k x).b++ptE (part (fun p=>(kt t p).1) k x).c)),(1,.arr 75 sgE 7 ((l.take i).map (yU t))),(0,.box 29 (afE t))],3,67,0⟩,
   fun k=>k<=(nm x.v).toNat/\qi t ((zD x).take k)=0,fun k=>3 - k,0,⟨Nat.zero_le _,rfl⟩,zh [(0,some 0),(1,some 1),(2,some 2)],?_⟩
  rintro k ⟨hk0,hke⟩
  refine Ob.mk ⟨oM,g1⟩ ?_;intro y hy;have hy:l[i]? =some y:=hy;rw [hx] at hy;cases hy
  refine zb.t (zgy x.v) ?_;refine Br.mk (fun g2=>?_) (fun g2=>?_)
  ·have g2:(k:Int) < nm x.v:=g2;have hat:=zmQ (s:=x) g2;have e:k=0∨k=1∨k=2:=oM
   rcases e with rfl | rfl | rfl
   ·refine Dr.k ?_;refine zb.t (zeK t x.a ht) ?_;refine Br.mk (fun h5=>bad _ (zeL h hi0 hx hke hat h5)) (fun h5=>?_);have h5:(kt t x.a).2=0:=Classical.byContradiction h5;refine Ar.fit dC ?_;exact ⟨1,⟨by show 1<=_;omega,(y6 hke hat).1 h5⟩,zh [(0,some 0),(1,some 1),(2,some 2)],dC⟩
   ·refine Dr.k ?_;refine zb.t (zeK t x.b ht) ?_;refine Br.mk (fun h5=>bad _ (zeL h hi0 hx hke hat h5)) (fun h5=>?_);have h5:(kt t x.b).2=0:=Classical.byContradiction h5;refine Ar.fit dC ?_;exact ⟨2,⟨by show 2<=_;omega,(y6 hke hat).1 h5⟩,zh [(0,some 0),(1,some 1),(2,some 2)],dC⟩
   ·refine Dr.k ?_;refine zb.t (zeK t x.c ht) ?_;refine Br.mk (fun h5=>bad _ (zeL h hi0 hx hke hat h5)) (fun h5=>?_);have h5:(kt t x.c).2=0:=Classical.byContradiction h5;refine Ar.fit dC ?_;exact ⟨3,⟨by show 3<=_;omega,(y6 hke hat).1 h5⟩,zh [(0,some 0),(1,some 1),(2,some 2)],dC⟩
  ·have g2:¬(k:Int) < nm x.v:=g2;have hku:k=(nm x.v).toNat:=oM
   have hall:(zD x).take k=zD x:=by
    rw [List.take_of_length_le];unfold zD;simp;omega
   rw [hall] at hke;refine Dr.k ?_;refine Ob.mk ⟨oM,g1⟩ ?_;intro y hy;have hy:l[i]? =some y:=hy;rw [hx] at hy;cases hy
   refine ⟨Sg,sgE,[part (fun p=>(kt t p).1) k x],rfl,Ob.o0 ?_⟩;refine ⟨[part (fun p=>(kt t p).1) k x],rfl,Ob.mk ⟨(by show _*(56:Int)<=_;simp only [List.length_cons,List.length_nil];omega),(by simp only [List.length_cons,List.length_nil];omega),dC,fun _ _=>rfl⟩ ?_⟩;refine Ar.o ?_;exact ⟨i+1,⟨by show i+1<=_;omega,zp4 hi0 hx hke⟩,zM [(0,some 0),(1,some 4)] ⟨congrArg (fun q=>some (Mem.arr 75 sgE 7 q)) (by rw [List.take_add_one,hx,hku];simp [zp3 t hf,ym]),rfl,trivial⟩,by dsimp only;omega⟩
 ·have hil:i=l.length:=by omega
  rw [hil,List.take_length] at hi0;have htr:kg t l=(l.map (yU t),0):=by rw [kg,if_neg h1,hi0,if_neg (fun k=>k rfl)]
  rw [show (kg t l).1=(l.take i).map (yU t) by rw [htr,hil,List.take_length],show (kg t l).2=0 by rw [htr]];exact zS .refl .refl
instance (t:AF) (n:Nat):Decidable (t.le n):=inferInstanceAs (Decidable (_/\_))
def jZ(p:Nat×SV):Nat×SV:=
 match p.2 with
 | .loc k o=>(p.1,.loc k o)
 | _=>(p.1,.junk)
theorem zed:∀(L:List (Nat×SV)) (t:Nat) (s:SV),kD (L.map jZ) t=some s->s=.junk∨∃k o,s=.loc k o/\kD L t=some (.loc k o)
 | [],t,s,h=>by simp [kD] at h
 | (d,s0)::L,t,s,h=>by
  have e:(((d,s0)::L).map jZ)=(d,(jZ (d,s0)).2)::L.map jZ:=by
   simp only [List.map_cons];congr 1;unfold jZ;dsimp only;split <;> rfl
  rw [e,ki] at h
  split at h
  ·rename_i hd
   cases h
   unfold jZ;dsimp only
   split
   ·rename_i k o;exact .inr ⟨k,o,rfl,by rw [ki,if_pos hd]⟩
   ·exact .inl rfl
  ·rename_i hd
   rcases zed L t s h with h | ⟨k,o,h1,h2⟩
   ·exact .inl h
   ·exact .inr ⟨k,o,h1,by rw [ki,if_neg hd,h2]⟩
def zsA:SV->Bool
 | .loc _ _=>true
 | _=>false
def zuz(K:St->Prop):Ex->St->Prop
 | .exit _,_=>False
 | .normal,σ=>K σ
 | .ret,σ=>K σ
def zoG(n:Nat)(P:Program)(Γ:List (TypeId×TI))(fn cfn:Func)(cc:Code)(caps:List SV)(r:SV)(σ3:St):Prop:=
 Nat.beq σ3.M.length σ3.nk=true/\jB P Γ cc ⟨jC 0 caps,σ3.M,σ3.M.length,cfn.ntmps,σ3.M.length⟩ (zuz fun σ4=>zaS σ4 Γ cfn.results.toList fun _=>
  zaS ⟨σ3.L.map jZ,σ4.M,σ4.nk,σ3.nt,0⟩ Γ fn.results.toList fun s=>LE (zfl (zO σ4.M) n s) r)
def ztY(n:Nat)(P:Program)(Γ:List (TypeId×TI))(fn cfn:Func)(cc:Code)(caps:List SV)(r:SV)(σ3:St):Prop:=∃σ',Sub σ3 σ'/\zoG n P Γ fn cfn cc caps r σ'
def zvJ(n:Nat)(P:Program)(Γ:List (TypeId×TI))(fn cfn:Func)(cf:FuncId)(t:Tmp)(rest cc:Code)(r:SV)(σ2:St):Prop:=
 ∃caps,kD σ2.L t=some (.fn cf caps)/\Nat.ble caps.length cfn.ntmps=true/\caps.all zsA=true/\jB P Γ rest ⟨σ2.L,σ2.M,σ2.nk,σ2.nt,σ2.nk⟩ (zuz (ztY n P Γ fn cfn cc caps r))
def vcDf(n:Nat)(P:Program)(Γ:List (TypeId×TI))(fn cfn:Func)(cf:FuncId)(cc:Code)(r:SV):Nat->Code->St->Prop
 | 0,c,σ=>∃id o1 o2 rest t,c=.seq (.region id #[o1,o2] false) rest/\o2.op=.defer ⟨.value (.tmp t),#[],#[]⟩/\o2.guard=none/\o2.dst=none/\
   yN P Γ false [o1,o2] [o1] 0 σ (zvJ n P Γ fn cfn cf t rest cc r)
 | k+1,c,σ=>∃x y,c=.seq x y/\jB P Γ x σ fun e σ=>match e with
   | .normal=>vcDf n P Γ fn cfn cf cc r k y σ
   | .ret=>zaS σ Γ fn.results.toList fun s=>LE (zfl (zO σ.M) n s) r
   | .exit _=>False
theorem zsB {E:Env} {M:List (Nat×Mem)} {ρ:zj} {w:World} {n:Nat} {s r:SV} {v:Value} (hm:zL E.Keep M ρ w) (hle:LE (zfl (zO M) n s) r)
  (hg:G (fun b=>E.Keep b∨Own M ρ b) (Own M ρ) ρ w s v):G (fun b=>E.Keep b∨Own [] ρ b) (Own [] ρ) ρ w r v:=by
 have hd:∀{s:SV} {v:Value},G (fun b=>E.Keep b∨Own M ρ b) (Own M ρ) ρ w s v->D (fun b=>E.Keep b∨Own [] ρ b) w (frz (zO M) n s) v:=fun h=>
  (zlN (fun k m h=>zt h) hm n h).less fun b hb=>hb.resolve_right zP
 refine hle _ _ _ _ _ ?_;unfold zfl
 split
 ·rename_i cs;obtain ⟨vs,rfl,hvs⟩:=hg.tup_inv;refine .tup _ vs (by rw [List.length_map];exact hvs.1) fun j s v hs hv=>?_
  rw [List.getElem?_map] at hs
  cases hc:cs[j]? with
  | none=>simp [hc] at hs
  | some c=>
   simp [hc] at hs;subst hs;exact .d _ _ (hd (hvs.2 j c v hc hv))
 ·exact .d _ _ (hd hg)
theorem zmi {n:Nat} {P:Program} {Γ:List (TypeId×TI)} (hT:TOK P Γ) (hm:P.follows .mixedOrders=true) {cf:FuncId} {fn cfn:Func} {cc:Code} {r:SV}
  (hcf:P.funcs[cf]? =some cfn) (hcb:cfn.body=some cc) (hcn:(cfn.name== "runtime.NumGoroutine")=false) {Keep:Nat->Prop} {ρ:zj} {w:World} (hk:∀b,Keep b->b < w.heap.size) (hρ:∀k,0<=k->ρ k=none) {RF:Ending->World->Prop}
  (hRF:∀e w',RF e w'↔∃v ρ',e=.returned v/\Stp (Own [] ρ) (Own [] ρ') ρ ρ' w w'/\zL Keep [] ρ' w'/\G (fun b=>Keep b∨Own [] ρ' b) (Own [] ρ') ρ' w' r v):
  ∀(k:Nat) (c:Code) {σ1:St} {ρ1:zj} {a1:Act} {w1:World},Rel ⟨w,ρ,Keep,Own [] ρ,[]⟩ σ1 ρ1 a1 w1->vcDf n P Γ fn cfn cf cc r k c σ1->c.wp P (bodyPostD P fn RF) a1 w1
 | k+1,c,σ1,ρ1,a1,w1,hr1,h=>by
  obtain ⟨x,y,rfl,h⟩:=h;refine wp_seq (Code.wp_mono (fun e a2 w2 hq=>?_) (kL hT hm x hr1 h))
  cases e with
  | normal=>obtain ⟨σ,ρ',h1,h2⟩:=hq;exact zmi hT hm hcf hcb hcn hk hρ hRF k y h2 h1
  | ret=>
   obtain ⟨σ,ρ',h1,hr⟩:=hq;obtain ⟨s,hles,h8⟩:=jR hT h1;obtain ⟨v,hv,hgv⟩:=h8 hr;have hst:=hr.stp;show Leaves P fn a2.tmps RF a2.defers .returning w2;have hd0:a2.defers=[]:=hr.defers;rw [hd0];refine ⟨v,hv,(hRF _ _).2 ⟨v,ρ',rfl,?_,qm hr.mem.kp,zsB hr.mem hles hgv⟩⟩;exact ⟨hst.os,hst.tape,hst.output,hst.size,fun b hb hn=>hst.block b hb fun h=>hn h,fun b hb=>absurd hb zP,hst.rho⟩
  | exit id=>obtain ⟨σ,ρ',h1,_⟩:=hq;exact h1.elim
  | _=>exact hq.elim
 | 0,c,σ1,ρ1,a1,w1,hr1,h=>by
  obtain ⟨id,o1,o2,rest,t,rfl,ho,hg,hd,h1⟩:=h;refine wp_seq (wp_region_list ?_);obtain ⟨σ',run,svs,s,md,h2,hgd,href,hdst,hrun⟩:=zdF hT hr1 h1
  have hr1':Rel ⟨w,ρ,Keep,Own [] ρ,[]⟩ σ' ρ1 a1 w1:=by
   rcases href with rfl | ⟨t,s0,s1,q2,q3,rfl⟩
   ·exact hr1
   ·exact hr1.refine q2 q3
  have hnt:σ'.nt=σ1.nt:=by rcases href with rfl | ⟨t,s0,s1,q2,q3,rfl⟩ <;> rfl
  have go2:∀{ρ2:zj} {a2:Act} {w2:World} {Q:Exit->Act->World->Prop},(∀a w,rest.wp P (bodyPostD P fn RF) a w->Q .normal a w)->Rel ⟨w,ρ,Keep,Own [] ρ,[]⟩ (σ'.app o1.dst s md) ρ2 a2 w2->
    wpList P #[o1,o2] Q [o2] a2 w2:=by
   intro ρ2 a2 w2 Q hQ hr2;obtain ⟨caps,hlt,hcle,hall,h3⟩:=h2;have hgt:=(hr2.regs t _ hlt).2;obtain ⟨cvs,hcv,hcg⟩:=hgt.fn_inv;have hw:Region.wanted o2 (yielded (#[o1,o2]:Array Oper) a2.tmps)=true:=hr2.wanted (all:=[o1,o2]) (by simp [qu,hg]);unfold wpList;rw [hw];simp only [if_true];refine .inl ?_;unfold Oper.wp
   have hex:(execOp a2.eval o2).run P w2=.ok (.defer ⟨.fn (.func cf) cvs.toArray,#[]⟩) w2:=by
    have hev:a2.eval (.tmp t)=.func (.func cf) #[] cvs.toArray:=hcv;simp only [execOp,ho,resolve,hev,Deferred.ofValue,Sem.run_bind,Sem.run_pure,Result.andThen_ok];simp
   rw [hex,Oper.upon_defer,hd];refine hQ _ _ ?_;show rest.wp P _ { a2 with defers:=_::a2.defers } w2;have hd0:a2.defers=[]:=hr2.defers;rw [hd0]
   -- the rest,with the call put off
   let E3:Env:=⟨w2,ρ2,Keep,Own (σ'.app o1.dst s md).M ρ2,[⟨.fn (.func cf) cvs.toArray,#[]⟩]⟩
   have hr3:Rel E3 ⟨(σ'.app o1.dst s md).L,(σ'.app o1.dst s md).M,(σ'.app o1.dst s md).nk,(σ'.app o1.dst s md).nt,(σ'.app o1.dst s md).nk⟩ ρ2 { a2 with defers:=[⟨.fn (.func cf) cvs.toArray,#[]⟩] } w2:=
    ⟨hr2.size,rfl,hr2.regs,hr2.mem,hr2.fresh,.refl,hr2.mem.kp,fun k v hv=>by
     rcases Nat.lt_or_ge k (σ'.app o1.dst s md).nk with h | h
     ·exact h
     ·have hv:ρ2 k=some v:=hv
      rw [hr2.fresh k h] at hv;cases hv⟩
   refine Code.wp_mono (fun e a3 w3 hq=>?_) (kL hT hm rest hr3 h3)
   have fin:∀σ3 ρ3,zoG n P Γ fn cfn cc caps r σ3->Rel E3 σ3 ρ3 a3 w3->Leaves P fn a3.tmps RF a3.defers .returning w3:=by
    intro σ3 ρ3 ⟨hbeq,h4⟩ hr3;have hlen:=Nat.eq_of_beq_eq_true hbeq;have hd3:a3.defers=[⟨.fn (.func cf) cvs.toArray,#[]⟩]:=hr3.defers;rw [hd3];have hρ3:∀k,σ3.M.length<=k->ρ3 k=none:=fun k hk=>hr3.fresh k oM
    have hcg3:Gs (fun b=>Keep b∨Own σ3.M ρ3 b) (Own σ3.M ρ3) ρ3 w3 caps cvs:=by
     refine ⟨hcg.1,fun j s v hs hv=>?_⟩;have hl:zsA s=true:=List.all_eq_true.1 hall s (List.mem_of_getElem? hs)
     cases s <;> try (simp [zsA] at hl)
     rename_i k off;obtain ⟨b,hb1,rfl⟩:=(hcg.2 j _ v hs hv).loc_inv;exact .loc _ _ _ (hr3.stp.rho _ _ hb1)
    have hent:=zap (nt:=cfn.ntmps) hr3.mem hρ3 hcg3 (Nat.le_of_ble_eq_true hcle);refine leaves_cons (by simp) (f:=cf) (args:=cvs.toArray) ?_ ?_
    ·simp only [invoke,callFunc,Sem.run_bind,Sem.run_pure,Result.andThen_ok,run_program,hcf,hcn,hcb,Option.isNone_some,Bool.false_eq_true,if_false];simp
    ·refine (callsD_of_wp (R:=fun e w4=>∃v0,e=.returned v0/\Leaves P fn a3.tmps RF [] .returning w4) hcf hcb ?_).mono ?_
     ·refine Code.wp_mono (fun e a4 w4 hq=>?_) (kL hT hm cc hent h4)
      have fin2:∀σ4 ρ4,(zaS σ4 Γ cfn.results.toList fun _=>zaS ⟨σ3.L.map jZ,σ4.M,σ4.nk,σ3.nt,0⟩ Γ fn.results.toList fun s=>LE (zfl (zO σ4.M) n s) r)->
        Rel ⟨w3,ρ3,Keep,Own σ3.M ρ3,[]⟩ σ4 ρ4 a4 w4->a4.defers=[]/\∃v,(results cfn a4.tmps).run P w4=.ok v w4/\∃v0,Ending.returned v=.returned v0/\
         Leaves P fn a3.tmps RF [] .returning w4:=by
       intro σ4 ρ4 h5 hr4;obtain ⟨s0,h6,h7⟩:=jR hT h5;obtain ⟨v0,hv0,_⟩:=h7 hr4;refine ⟨hr4.defers,v0,hv0,v0,rfl,?_⟩;have hst:Stp (Own [] ρ) (Own σ4.M ρ4) ρ ρ4 w w4:=(hr2.stp.trans hr3.stp).trans hr4.stp
       have hfin:Rel ⟨w,ρ,Keep,Own [] ρ,a3.defers⟩ ⟨σ3.L.map jZ,σ4.M,σ4.nk,σ3.nt,0⟩ ρ4 a3 w4:=by
        refine ⟨hr3.size,rfl,fun t s hl=>?_,hr4.mem,hr4.fresh,hst,hk,fun k v hv=>?_⟩
        ·rcases zed σ3.L t s hl with rfl | ⟨k,o,rfl,h8⟩
         ·refine ⟨?_,.d _ _ (.junk _)⟩
          have:∃s,kD σ3.L t=some s:=by
           clear h5 h6 h7 h4 hr3 hr4 hent
           revert hl
           generalize σ3.L=L;intro hl
           induction L with
           | nil=>simp [kD] at hl
           | cons p L ih=>
            obtain ⟨d,s0⟩:=p
            by_cases hd:d=t
            ·exact ⟨s0,by rw [ki,if_pos hd]⟩
            ·rw [ki,if_neg hd];refine ih ?_
             have e:(((d,s0)::L).map jZ)=(d,(jZ (d,s0)).2)::L.map jZ:=by
              simp only [List.map_cons];congr 1;unfold jZ;dsimp only;split <;> rfl
             have hl':kD (((d,s0)::L).map jZ) t=some .junk:=hl;rw [e,ki,if_neg hd] at hl';exact hl'
          obtain ⟨s,hs⟩:=this;exact (hr3.regs t s hs).1
         ·obtain ⟨h9,h10⟩:=hr3.regs t _ h8;refine ⟨h9,?_⟩;obtain ⟨b,hb1,hb2⟩:=h10.loc_inv;rw [hb2];exact .loc _ _ _ (hr4.stp.rho _ _ hb1)
        ·have hv:ρ k=some v:=hv;rw [hρ k (Nat.zero_le _)] at hv;cases hv
       obtain ⟨s,hles,h8⟩:=jR hT h6;obtain ⟨v,hv,hgv⟩:=h8 hfin;refine ⟨v,hv,(hRF _ _).2 ⟨v,ρ4,rfl,?_,qm hfin.mem.kp,?_⟩⟩
       ·exact ⟨hst.os,hst.tape,hst.output,hst.size,fun b hb hn=>hst.block b hb hn,fun b hb=>absurd hb zP,hst.rho⟩
       ·exact zsB hfin.mem hles hgv
      cases e with
      | normal=>obtain ⟨σ4,ρ4,h5,hr4⟩:=hq;exact fin2 σ4 ρ4 h5 hr4
      | ret=>obtain ⟨σ4,ρ4,h5,hr4⟩:=hq;exact fin2 σ4 ρ4 h5 hr4
      | exit id=>obtain ⟨σ4,ρ4,h5,_⟩:=hq;exact h5.elim
      | _=>exact hq.elim
     ·rintro e u' w4 ⟨rfl,v0,rfl,hL⟩
      exact hL
   cases e with
   | normal=>obtain ⟨σ3,ρ3,⟨σ',hs,h4⟩,hr3⟩:=hq;obtain ⟨ρ',hr'⟩:=hs _ _ _ _ hr3;exact fin σ' ρ' h4 hr'
   | ret=>obtain ⟨σ3,ρ3,⟨σ',hs,h4⟩,hr3⟩:=hq;obtain ⟨ρ',hr'⟩:=hs _ _ _ _ hr3;exact fin σ' ρ' h4 hr'
   | exit id=>obtain ⟨σ3,ρ3,h4,_⟩:=hq;exact h4.elim
   | _=>exact hq.elim
  unfold wpList;rw [hr1'.wanted hgd]
  rcases hrun with ⟨rfl,hst⟩ | ⟨rfl,rfl,rfl⟩
  ·simp only [if_true];refine .inl ((hst.does hr1').wp fun v w' ha=>?_);obtain ⟨ρ',hrel⟩:=hr1'.app (fun t e=>hnt ▸ hdst t e) ha;exact go2 (fun _ _ h=>h) hrel
  ·simp only [Bool.false_eq_true,if_false];obtain ⟨ρ',hrel⟩:=hr1'.app (fun t e=>hnt ▸ hdst t e) (yF hr1'.mem);exact go2 (fun _ _ h=>h) hrel
theorem ziY (n k:Nat) {P:Program} {Γ:List (TypeId×TI)} (hT:TOK P Γ) (hm:P.follows .mixedOrders=true) {f cf:FuncId} {fn cfn:Func} {c:Code}
  {args:List SV} {r:SV} {cc:Code} (hf:P.funcs[f]? =some fn) (hb:fn.body=some c) (hn:(fn.name== "runtime.NumGoroutine")=false)
  (hle:Nat.ble args.length fn.ntmps=true) (hcf:P.funcs[cf]? =some cfn) (hcb:cfn.body=some cc) (hcn:(cfn.name== "runtime.NumGoroutine")=false)
  (h:vcDf n P Γ fn cfn cf cc r k c ⟨jC 0 args,[],0,fn.ntmps,0⟩):zd P f args [] r []:=by
 refine ⟨⟨fn,hf,hn,by rw [hb];rfl⟩,fun Keep ρ w vs hk hmem hρ hgs=>?_⟩;have hRF:∃RF:Ending->World->Prop,∀e w',RF e w'↔∃v ρ',e=.returned v/\Stp (Own [] ρ) (Own [] ρ') ρ ρ' w w'/\zL Keep [] ρ' w'/\G (fun b=>Keep b∨Own [] ρ' b) (Own [] ρ') ρ' w' r v:=⟨_,fun _ _=>Iff.rfl⟩;obtain ⟨RF,hRF⟩:=hRF;refine Calls.mono ?_ fun e w' h=>(hRF e w').1 h
 refine calls_of_wp_defers hf hb ?_;have hrel:=zap (nt:=fn.ntmps) hmem hρ hgs (Nat.le_of_ble_eq_true hle);exact zmi hT hm hcf hcb hcn hk hρ hRF k c hrel h
theorem vi{q:Rat}(h:vF q<=256):y5 q<=8:=by
 have key:∀n:Nat,z7 n<=256->(zm n).length<=8:=fun n hn=>jp (by
  have:=zbM n;have h2:2 ^ z7 n<=2 ^ 256:=Nat.pow_le_pow_right dC hn;have h3:(4294967296:Nat) ^ 8=2 ^ 256:=dC
  rw [h3];omega)
 unfold vF at h;unfold y5 je;have h1:=key q.num.natAbs oM;have h2:=key q.den oM;rw [Int.natAbs_natCast];omega
theorem ok_le{t:AF}(h:t.nrm.ok):t.nrm.le 8:=by
 obtain ⟨⟨⟨⟨⟨⟨_,o1⟩,o2⟩,o3⟩,o4⟩,o5⟩,o6⟩:=h;simp only [AF.nth,AF.nrm,kE] at o1 o2 o3 o4 o5 o6
 exact ⟨by show (ofQ _).len<=_;rw [zJ];exact vi o1,by show (ofQ _).len<=_;rw [zJ];exact vi o2,by show (ofQ _).len<=_;rw [zJ];exact vi o3,
  by show (ofQ _).len<=_;rw [zJ];exact vi o4,by show (ofQ _).len<=_;rw [zJ];exact vi o5,by show (ofQ _).len<=_;rw [zJ];exact vi o6⟩
def beh(t u:AF):AF:=afQ (u.a.v*t.a.v+u.c.v*t.b.v) (u.b.v*t.a.v+u.d.v*t.b.v) (u.a.v*t.c.v+u.c.v*t.d.v) (u.b.v*t.c.v+u.d.v*t.d.v) (jX u t.e.v t.f.v) (jY u t.e.v t.f.v)
theorem zsG{t u:AF}{n:Nat}(ht:t.le n)(hu:u.le n):(beh t u).le (5*n+7):=by
 obtain ⟨ha,hb,hc,hd,he,hf⟩:=ht;obtain ⟨ka,kb,kc,kd,ke,kf⟩:=hu;have m1:=qo u.a t.a u.c t.b u.e ka ha kc hb ke;have m2:=qo u.b t.a u.d t.b u.e kb ha kd hb ke;have m3:=qo u.a t.c u.c t.d u.e ka hc kc hd ke;have m4:=qo u.b t.c u.d t.d u.e kb hc kd hd ke;have m5:=qo u.a t.e u.c t.f u.e ka he kc hf ke;have m6:=qo u.b t.e u.d t.f u.f kb he kd hf kf;refine ⟨?_,?_,?_,?_,?_,?_⟩ <;> (show (ofQ _).len<=_;rw [zJ])
 ·omega
 ·omega
 ·omega
 ·omega
 ·exact m5.2
 ·exact m6.2
theorem zfg(t u:AF)(ht:t.le 1000000)(hu:u.le 1000000):zd Tryz.prog 60 [.agg (afE t),.agg (afE u)] [] (.agg (afE (beh t u))) []:=by
 obtain ⟨ha,hb,hc,hd,he,hf⟩:=ht;obtain ⟨ka,kb,kc,kd,ke,kf⟩:=hu;have m5:=qo u.a t.e u.c t.f u.e ka he kc hf ke;have m6:=qo u.b t.e u.d t.f u.f kb he kd hf kf;refine zc tok mix Tryz.func60 rfl rfl rfl ?_;refine Dr.k ?_;refine zb.t (v7 u.a t.a u.c t.b oM oM oM oM) ?_;refine zb.t (v7 u.b t.a u.d t.b oM oM oM oM) ?_;refine zb.t (v7 u.a t.c u.c t.d oM oM oM oM) ?_;refine zb.t (v7 u.b t.c u.d t.d oM oM oM oM) ?_;refine zb.t (v7 u.a t.e u.c t.f oM oM oM oM) ?_;refine zb.t (zda (ofQ (u.a.v*t.e.v+u.c.v*t.f.v)) u.e (by rw [zJ];omega) oM) ?_
 refine zb.t (v7 u.b t.e u.d t.f oM oM oM oM) ?_;refine zb.t (zda (ofQ (u.b.v*t.e.v+u.d.v*t.f.v)) u.f (by rw [zJ];omega) oM) ?_;rw [kE,kE];exact .refl
def zBR:BR:=⟨⟨false,[]⟩,⟨false,[]⟩⟩
def vP:AF:=⟨zBR,zBR,zBR,zBR,zBR,zBR⟩
theorem uU:LEs [bl false,.val (.slice none 0 0),bl false,.val (.slice none 0 0)] (brE zBR):=
 .cons (ze dC) (.cons ku (.cons (ze dC) (.cons ku .nil)))
theorem LEs.append:∀{xs bs cs ds:List SV},LEs xs bs->LEs cs ds->LEs (xs++cs) (bs++ds)
 | [],[],_,_,_,h=>h
 | _::_,_::_,_,_,.cons h hs,k=>.cons h (LEs.append hs k)
def z4:List SV:=[bl false,.val (.slice none 0 0),bl false,.val (.slice none 0 0)]
theorem zi0:LE (.agg zjO) (.agg (afE vP)):=by
 have uU:LEs z4 (brE zBR):=uU;have h:LE (.agg (z4++(z4++(z4++(z4++(z4++z4)))))) (.agg (afE vP)):=jJ (LEs.append uU (LEs.append uU (LEs.append uU (LEs.append uU (LEs.append uU uU)))));exact h
def idA:AF:=afQ ((1:Int):Rat) ((0:Int):Rat) ((0:Int):Rat) ((1:Int):Rat) ((0:Int):Rat) ((0:Int):Rat)
theorem znr:idA.le 2:=⟨by decide +kernel,by decide +kernel,by decide +kernel,by decide +kernel,by decide +kernel,by decide +kernel⟩
def v9(p t:AF):AF×Int:=
 if ¬p.ok then (vP,5) else if ¬t.ok then (vP,5) else if ¬(beh idA p).ok then (vP,5) else if ¬(beh (beh idA p) t).ok then (vP,5) else (beh (beh idA p) t,0)
theorem zoL(t u:AF):(beh t u).nrm=beh t u:=by
 unfold beh AF.nrm afQ;simp only [kE]
theorem zi1{t u:AF}(h:(beh t u).ok):(beh t u).le 8:=by
 have:=ok_le (t:=beh t u) (by rw [zoL];exact h)
 rwa [zoL] at this
theorem AF.le.up{t:AF}{n m:Nat}(h:t.le n)(k:n<=m):t.le m:=by
 obtain ⟨h1,h2,h3,h4,h5,h6⟩:=h;exact ⟨oM,oM,oM,oM,oM,oM⟩
theorem zbf(a b c d:Int)(e f:BR)(ha:R64 a)(hb:R64 b)(hc:R64 c)(hd:R64 d)(he:e.len<=100000000)(hf:f.len<=100000000):
  zd Tryz.prog 54 [i64 a,i64 b,i64 c,i64 d,.agg (brE e),.agg (brE f)] [] (.agg (afE (afQ a b c d e.v f.v))) []:=by
 refine zc tok mix Tryz.func54 rfl rfl rfl ?_;refine Dr.k ?_;refine zb.t (jc a ha) ?_;refine zb.t (jc b hb) ?_;refine zb.t (jc c hc) ?_;refine zb.t (jc d hd) ?_;refine zb.t (qG e oM) ?_;refine zb.t (qG f oM) ?_;exact .refl
theorem zsH:zBR.v=((0:Int):Rat):=by decide +kernel
theorem kI:zd Tryz.prog 23 [] [] (.agg (afE idA)) []:=by
 refine zc tok mix Tryz.func23 rfl rfl rfl ?_
 refine zb.to _ ((zbf 1 0 0 1 zBR zBR dC dC dC dC dC dC).args
  (.cons .refl (.cons .refl (.cons .refl (.cons .refl (.cons (jJ uU) (.cons (jJ uU) .nil))))))) rfl ?_
 rw [zsH];exact .refl
theorem zsI(p t:AF)(hp:p.le 100)(ht:t.le 100):zd Tryz.prog 28 [.sl afE [p,t]] [] (.tup [.agg (afE (v9 p t).1),i64 (v9 p t).2]) []:=by
 have bad:v9 p t=(vP,5)->LE (.tup [.agg zjO,i64 5]) (.tup [.agg (afE (v9 p t).1),i64 (v9 p t).2]):=fun h=>by
  rw [h];exact zS zi0 .refl
 have bad3:¬(p.ok/\t.ok/\(beh idA p).ok/\(beh (beh idA p) t).ok)->v9 p t=(vP,5):=fun h=>by
  unfold v9
  split
  ·rfl
  ·split
   ·rfl
   ·split
    ·rfl
    ·split
     ·rfl
     ·exact absurd ⟨Decidable.not_not.1 ‹_›,Decidable.not_not.1 ‹_›,Decidable.not_not.1 ‹_›,Decidable.not_not.1 ‹_›⟩ h
 refine zc tok mix Tryz.func28 rfl rfl rfl ?_;refine zb.t kI ?_;have l1:=zsG (n:=100) (znr.up dC) hp
 refine ⟨Nat,fun i=>⟨[(5,i64 i),(4,.loc 1 0),(2,.loc 0 0),(0,.sl afE [p,t])],[(1,.box 29 (afE (if i=0 then idA else if i=1 then beh idA p else beh (beh idA p) t))),(0,.box 29 zjO)],2,31,0⟩,
  fun i=>i<=2/\(1<=i->p.ok/\(beh idA p).ok)/\(2<=i->t.ok/\(beh (beh idA p) t).ok),fun i=>2 - i,0,⟨dC,fun h=>by omega,fun h=>by omega⟩,?_,?_⟩
 ·exact zh [(0,some 0),(1,some 1)]
 rintro i ⟨hi,s1,s2⟩
 intro _;have hi:i=0∨i=1∨i=2:=oM
 rcases hi with rfl | rfl | rfl
 ·refine Br.mk (fun _=>?_) (fun h=>absurd (show ((0:Nat):Int) < 2 by decide) h);refine Ob.mk ⟨dC,by show (0:Int) < 2;decide⟩ ?_;intro x hx
  cases hx
  refine zb.t (zaG p (hp.up dC)) ?_;refine Br.mk (fun h=>bad (bad3 fun k=>h k.1)) (fun h=>?_);refine Dr.k ?_;refine Ob.mk ⟨dC,by show (0:Int) < 2;decide⟩ ?_;intro x hx
  cases hx
  refine zb.t (zfg idA p (znr.up dC) (hp.up dC)) ?_;refine zb.t (zaG (beh idA p) (l1.up dC)) ?_;refine Br.mk (fun h=>bad (bad3 fun k=>h k.2.2.1)) (fun h2=>?_);refine Ar.fit dC ?_;exact ⟨1,⟨dC,fun _=>⟨Decidable.not_not.1 h,Decidable.not_not.1 h2⟩,fun h=>by omega⟩,zh [(0,some 0),(1,some 1)],dC⟩
 ·refine Br.mk (fun _=>?_) (fun h=>absurd (show ((1:Nat):Int) < 2 by decide) h);have s1:=s1 dC;refine Ob.mk ⟨dC,by show (1:Int) < 2;decide⟩ ?_;intro x hx
  cases hx
  refine zb.t (zaG t (ht.up dC)) ?_;refine Br.mk (fun h=>bad (bad3 fun k=>h k.2.1)) (fun h=>?_);refine Dr.k ?_;refine Ob.mk ⟨dC,by show (1:Int) < 2;decide⟩ ?_;intro x hx
  cases hx
  have l2:=zsG (n:=100) ((zi1 s1.2).up dC) ht;refine zb.t (zfg (beh idA p) t ((zi1 s1.2).up dC) (ht.up dC)) ?_;refine zb.t (zaG (beh (beh idA p) t) (l2.up dC)) ?_;refine Br.mk (fun h=>bad (bad3 fun k=>h k.2.2.2)) (fun h2=>?_);refine Ar.fit dC ?_;exact ⟨2,⟨dC,fun _=>s1,fun _=>⟨Decidable.not_not.1 h,Decidable.not_not.1 h2⟩⟩,zh [(0,some 0),(1,some 1)],dC⟩
 refine Br.mk (fun h=>absurd h (by show ¬((2:Nat):Int) < 2;decide)) (fun _=>?_);have s1:=s1 dC;have s2:=s2 dC;have e:v9 p t=(beh (beh idA p) t,0):=(if_neg (fun k=>k s1.1)).trans ((if_neg (fun k=>k s2.1)).trans ((if_neg (fun k=>k s1.2)).trans (if_neg (fun k=>k s2.2))));rw [e];exact zS .refl .refl
end Go.Gs
