/- A function that puts one call off, after any pieces of code, some of which may return: its results are data. -/
import Derived.Test.YtcjnhffjmonbeaaGreatDoorMA
import Derived.Test.YtcjnhffjmonbeaaGreatDoorMBH
import Derived.Test.YtcjnhffjmonbeaaGreatDoorMAV
import Derived.Test.YtcjnhffjmonbeaaGreatDoorMAS
import Derived.Test.YtcjnhffjmonbeaaGreatDoorMAY
import Derived.Test.YtcjnhffjmonbeaaGreatDoorMAT
import Derived.Test.YtcjnhffjmonbeaaGreatDoorMAR
set_option maxRecDepth 100000
set_option maxHeartbeats 8000000
set_option linter.all false
namespace Go.Gs
def zl2(n:Nat)(P:Program)(Γ:List (TypeId×TI))(fn cfn:Func)(cc:Code)(caps:List SV)(r:SV)(σ3:St):Prop:=
 Nat.beq σ3.M.length σ3.nk=true/\ztB P Γ cc ⟨qE 0 caps,σ3.M,σ3.M.length,cfn.ntmps,σ3.M.length⟩ (zr5 fun σ4=>vF σ4 Γ cfn.results.toList fun _=>
  vF ⟨σ3.L.map jf,σ4.M,σ4.nk,σ3.nt,0⟩ Γ fn.results.toList fun s=>LE (zf7 (zE σ4.M) n s) r)
def zrb(n:Nat)(P:Program)(Γ:List (TypeId×TI))(fn cfn:Func)(cc:Code)(caps:List SV)(r:SV)(σ3:St):Prop:=∃σ',Sub σ3 σ'/\zl2 n P Γ fn cfn cc caps r σ'
def zs3(n:Nat)(P:Program)(Γ:List (TypeId×TI))(fn cfn:Func)(cf:FuncId)(t:Tmp)(rest cc:Code)(r:SV)(σ2:St):Prop:=
 ∃caps,z8 σ2.L t=some (.fn cf caps)/\Nat.ble caps.length cfn.ntmps=true/\caps.all zpE=true/\ztB P Γ rest ⟨σ2.L,σ2.M,σ2.nk,σ2.nt,σ2.nk⟩ (zr5 (zrb n P Γ fn cfn cc caps r))
def vcDf(n:Nat)(P:Program)(Γ:List (TypeId×TI))(fn cfn:Func)(cf:FuncId)(cc:Code)(r:SV):Nat->Code->St->Prop
 | 0,c,σ=>∃id o1 o2 rest t,c=.seq (.region id #[o1,o2] false) rest/\o2.op=.defer ⟨.value (.tmp t),#[],#[]⟩/\o2.guard=none/\o2.dst=none/\
   jY P Γ false [o1,o2] [o1] 0 σ (zs3 n P Γ fn cfn cf t rest cc r)
 | k+1,c,σ=>∃x y,c=.seq x y/\ztB P Γ x σ fun e σ=>match e with
   | .normal=>vcDf n P Γ fn cfn cf cc r k y σ
   | .ret=>vF σ Γ fn.results.toList fun s=>LE (zf7 (zE σ.M) n s) r
   | .exit _=>False
theorem zpF {E:Env} {M:List (Nat×Mem)} {ρ:zh} {w:World} {n:Nat} {s r:SV} {v:Value} (hm:zz E.Keep M ρ w) (hle:LE (zf7 (zE M) n s) r)
  (hg:G (fun b=>E.Keep b∨Own M ρ b) (Own M ρ) ρ w s v):G (fun b=>E.Keep b∨Own [] ρ b) (Own [] ρ) ρ w r v:=by
 have hd:∀{s:SV} {v:Value},G (fun b=>E.Keep b∨Own M ρ b) (Own M ρ) ρ w s v->D (fun b=>E.Keep b∨Own [] ρ b) w (frz (zE M) n s) v:=fun h=>
  (zlU (fun k m h=>zn h) hm n h).less fun b hb=>hb.resolve_right zG
 refine hle _ _ _ _ _ ?_;unfold zf7
 split
 ·rename_i cs;obtain ⟨vs,rfl,hvs⟩:=hg.tup_inv;refine .tup _ vs (by rw [List.length_map];exact hvs.1) fun j s v hs hv=>?_
  rw [List.getElem?_map] at hs
  cases hc:cs[j]? with
  | none=>simp [hc] at hs
  | some c=>
   simp [hc] at hs;subst hs;exact .d _ _ (hd (hvs.2 j c v hc hv))
 ·exact .d _ _ (hd hg)
theorem zjI {n:Nat} {P:Program} {Γ:List (TypeId×TI)} (hT:TOK P Γ) (hm:P.follows .mixedOrders=true) {cf:FuncId} {fn cfn:Func} {cc:Code} {r:SV}
  (hcf:P.funcs[cf]? =some cfn) (hcb:cfn.body=some cc) (hcn:(cfn.name== "runtime.NumGoroutine")=false) {Keep:Nat->Prop} {ρ:zh} {w:World} (hk:∀b,Keep b->b < w.heap.size) (hρ:∀k,0<=k->ρ k=none) {RF:Ending->World->Prop}
  (hRF:∀e w',RF e w'↔∃v ρ',e=.returned v/\Stp (Own [] ρ) (Own [] ρ') ρ ρ' w w'/\zz Keep [] ρ' w'/\G (fun b=>Keep b∨Own [] ρ' b) (Own [] ρ') ρ' w' r v):
  ∀(k:Nat) (c:Code) {σ1:St} {ρ1:zh} {a1:Act} {w1:World},Rel ⟨w,ρ,Keep,Own [] ρ,[]⟩ σ1 ρ1 a1 w1->vcDf n P Γ fn cfn cf cc r k c σ1->c.wp P (bodyPostD P fn RF) a1 w1
 | k+1,c,σ1,ρ1,a1,w1,hr1,h=>by
  obtain ⟨x,y,rfl,h⟩:=h;refine wp_seq (Code.wp_mono (fun e a2 w2 hq=>?_) (z3 hT hm x hr1 h))
  cases e with
  | normal=>obtain ⟨σ,ρ',h1,h2⟩:=hq;exact zjI hT hm hcf hcb hcn hk hρ hRF k y h2 h1
  | ret=>
   obtain ⟨σ,ρ',h1,hr⟩:=hq;obtain ⟨s,hles,h8⟩:=qZ hT h1;obtain ⟨v,hv,hgv⟩:=h8 hr;have hst:=hr.stp;show Leaves P fn a2.tmps RF a2.defers .returning w2;have hd0:a2.defers=[]:=hr.defers;rw [hd0];refine ⟨v,hv,(hRF _ _).2 ⟨v,ρ',rfl,?_,(kT hr.mem.kp fun _ _ h=>hr.mem.glc h),zpF hr.mem hles hgv⟩⟩;exact ⟨hst.os,hst.tape,hst.output,hst.size,fun b hb hn=>hst.block b hb fun h=>hn h,fun b hb=>absurd hb zG,hst.rho⟩
  | exit id=>obtain ⟨σ,ρ',h1,_⟩:=hq;exact h1.elim
  | _=>exact hq.elim
 | 0,c,σ1,ρ1,a1,w1,hr1,h=>by
  obtain ⟨id,o1,o2,rest,t,rfl,ho,hg,hd,h1⟩:=h;refine wp_seq (wp_region_list ?_);obtain ⟨σ',run,svs,s,md,h2,hgd,href,hdst,hrun⟩:=zco hT hr1 h1
  have hr1':Rel ⟨w,ρ,Keep,Own [] ρ,[]⟩ σ' ρ1 a1 w1:=by
   rcases href with rfl | ⟨t,s0,s1,q2,q3,rfl⟩
   ·exact hr1
   ·exact hr1.refine q2 q3
  have hnt:σ'.nt=σ1.nt:=by rcases href with rfl | ⟨t,s0,s1,q2,q3,rfl⟩ <;> rfl
  have go2:∀{ρ2:zh} {a2:Act} {w2:World} {Q:Exit->Act->World->Prop},(∀a w,rest.wp P (bodyPostD P fn RF) a w->Q .normal a w)->Rel ⟨w,ρ,Keep,Own [] ρ,[]⟩ (σ'.app o1.dst s md) ρ2 a2 w2->
    wpList P #[o1,o2] Q [o2] a2 w2:=by
   intro ρ2 a2 w2 Q hQ hr2;obtain ⟨caps,hlt,hcle,hall,h3⟩:=h2;have hgt:=(hr2.regs t _ hlt).2;obtain ⟨cvs,hcv,hcg⟩:=hgt.fn_inv;have hw:Region.wanted o2 (yielded (#[o1,o2]:Array Oper) a2.tmps)=true:=hr2.wanted (all:=[o1,o2]) (by simp [kO,hg]);unfold wpList;rw [hw];simp only [if_true];refine .inl ?_;unfold Oper.wp
   have hex:(execOp a2.eval o2).run P w2=.ok (.defer ⟨.fn (.func cf) cvs.toArray,#[]⟩) w2:=by
    have hev:a2.eval (.tmp t)=.func (.func cf) #[] cvs.toArray:=hcv;simp only [execOp,ho,resolve,hev,Deferred.ofValue,Sem.run_bind,Sem.run_pure,Result.andThen_ok];simp
   rw [hex,Oper.upon_defer,hd];refine hQ _ _ ?_;show rest.wp P _ { a2 with defers:=_::a2.defers } w2;have hd0:a2.defers=[]:=hr2.defers;rw [hd0]
   -- the rest,with the call put off
   let E3:Env:=⟨w2,ρ2,Keep,Own (σ'.app o1.dst s md).M ρ2,[⟨.fn (.func cf) cvs.toArray,#[]⟩]⟩
   have hr3:Rel E3 ⟨(σ'.app o1.dst s md).L,(σ'.app o1.dst s md).M,(σ'.app o1.dst s md).nk,(σ'.app o1.dst s md).nt,(σ'.app o1.dst s md).nk⟩ ρ2 { a2 with defers:=[⟨.fn (.func cf) cvs.toArray,#[]⟩] } w2:=
    ⟨hr2.size,rfl,hr2.regs,hr2.mem,hr2.fresh,.refl,hr2.mem.kp,fun k v hv=>by
     rcases Nat.lt_or_ge k (σ'.app o1.dst s md).nk with h | h
     ·exact h
     ·have hv:ρ2 k=some v:=hv
      rw [hr2.fresh k h] at hv;cases hv⟩
   refine Code.wp_mono (fun e a3 w3 hq=>?_) (z3 hT hm rest hr3 h3)
   have fin:∀σ3 ρ3,zl2 n P Γ fn cfn cc caps r σ3->Rel E3 σ3 ρ3 a3 w3->Leaves P fn a3.tmps RF a3.defers .returning w3:=by
    intro σ3 ρ3 ⟨hbeq,h4⟩ hr3;have hlen:=Nat.eq_of_beq_eq_true hbeq;have hd3:a3.defers=[⟨.fn (.func cf) cvs.toArray,#[]⟩]:=hr3.defers;rw [hd3];have hρ3:∀k,σ3.M.length<=k->ρ3 k=none:=fun k hk=>hr3.fresh k oM
    have hcg3:Gs (fun b=>Keep b∨Own σ3.M ρ3 b) (Own σ3.M ρ3) ρ3 w3 caps cvs:=by
     refine ⟨hcg.1,fun j s v hs hv=>?_⟩;have hl:zpE s=true:=List.all_eq_true.1 hall s (List.mem_of_getElem? hs)
     cases s <;> try (simp [zpE] at hl)
     rename_i k off;obtain ⟨b,hb1,rfl⟩:=(hcg.2 j _ v hs hv).loc_inv;exact .loc _ _ _ (hr3.stp.rho _ _ hb1)
    have hent:=ub (nt:=cfn.ntmps) hr3.mem hρ3 hcg3 (Nat.le_of_ble_eq_true hcle);refine leaves_cons (by simp) (f:=cf) (args:=cvs.toArray) ?_ ?_
    ·simp only [invoke,callFunc,Sem.run_bind,Sem.run_pure,Result.andThen_ok,run_program,hcf,hcn,hcb,Option.isNone_some,Bool.false_eq_true,if_false];simp
    ·refine (callsD_of_wp (R:=fun e w4=>∃v0,e=.returned v0/\Leaves P fn a3.tmps RF [] .returning w4) hcf hcb ?_).mono ?_
     ·refine Code.wp_mono (fun e a4 w4 hq=>?_) (z3 hT hm cc hent h4)
      have fin2:∀σ4 ρ4,(vF σ4 Γ cfn.results.toList fun _=>vF ⟨σ3.L.map jf,σ4.M,σ4.nk,σ3.nt,0⟩ Γ fn.results.toList fun s=>LE (zf7 (zE σ4.M) n s) r)->
        Rel ⟨w3,ρ3,Keep,Own σ3.M ρ3,[]⟩ σ4 ρ4 a4 w4->a4.defers=[]/\∃v,(results cfn a4.tmps).run P w4=.ok v w4/\∃v0,Ending.returned v=.returned v0/\
         Leaves P fn a3.tmps RF [] .returning w4:=by
       intro σ4 ρ4 h5 hr4;obtain ⟨s0,h6,h7⟩:=qZ hT h5;obtain ⟨v0,hv0,_⟩:=h7 hr4;refine ⟨hr4.defers,v0,hv0,v0,rfl,?_⟩;have hst:Stp (Own [] ρ) (Own σ4.M ρ4) ρ ρ4 w w4:=(hr2.stp.trans hr3.stp).trans hr4.stp
       have hfin:Rel ⟨w,ρ,Keep,Own [] ρ,a3.defers⟩ ⟨σ3.L.map jf,σ4.M,σ4.nk,σ3.nt,0⟩ ρ4 a3 w4:=by
        refine ⟨hr3.size,rfl,fun t s hl=>?_,hr4.mem,hr4.fresh,hst,hk,fun k v hv=>?_⟩
        ·rcases zcQ σ3.L t s hl with rfl | ⟨k,o,rfl,h8⟩
         ·refine ⟨?_,.d _ _ (.junk _)⟩
          have:∃s,z8 σ3.L t=some s:=by
           clear h5 h6 h7 h4 hr3 hr4 hent
           revert hl
           generalize σ3.L=L;intro hl
           induction L with
           | nil=>simp [z8] at hl
           | cons p L ih=>
            obtain ⟨d,s0⟩:=p
            by_cases hd:d=t
            ·exact ⟨s0,by rw [zW,if_pos hd]⟩
            ·rw [zW,if_neg hd];refine ih ?_
             have e:(((d,s0)::L).map jf)=(d,(jf (d,s0)).2)::L.map jf:=by
              simp only [List.map_cons];congr 1;unfold jf;dsimp only;split <;> rfl
             have hl':z8 (((d,s0)::L).map jf) t=some .junk:=hl;rw [e,zW,if_neg hd] at hl';exact hl'
          obtain ⟨s,hs⟩:=this;exact (hr3.regs t s hs).1
         ·obtain ⟨h9,h10⟩:=hr3.regs t _ h8;refine ⟨h9,?_⟩;obtain ⟨b,hb1,hb2⟩:=h10.loc_inv;rw [hb2];exact .loc _ _ _ (hr4.stp.rho _ _ hb1)
        ·have hv:ρ k=some v:=hv;rw [hρ k (Nat.zero_le _)] at hv;cases hv
       obtain ⟨s,hles,h8⟩:=qZ hT h6;obtain ⟨v,hv,hgv⟩:=h8 hfin;refine ⟨v,hv,(hRF _ _).2 ⟨v,ρ4,rfl,?_,(kT hfin.mem.kp fun _ _ h=>hfin.mem.glc h),?_⟩⟩
       ·exact ⟨hst.os,hst.tape,hst.output,hst.size,fun b hb hn=>hst.block b hb hn,fun b hb=>absurd hb zG,hst.rho⟩
       ·exact zpF hfin.mem hles hgv
      cases e with
      | normal=>obtain ⟨σ4,ρ4,h5,hr4⟩:=hq;exact fin2 σ4 ρ4 h5 hr4
      | ret=>obtain ⟨σ4,ρ4,h5,hr4⟩:=hq;exact fin2 σ4 ρ4 h5 hr4
      | exit id=>obtain ⟨σ4,ρ4,h5,_⟩:=hq;exact h5.elim
      | _=>exact hq.elim
     ·rintro e u' w4 ⟨rfl,v0,rfl,hL⟩
      exact hL
   cases e with
   | normal=>obtain ⟨σ3,ρ3,⟨σ',hs,h4⟩,hr3⟩:=hq;obtain ⟨ρ',hr'⟩:=hs _ _ _ _ hr3;exact fin σ' ρ' h4 hr'
   | ret=>obtain ⟨σ3,ρ3,⟨σ',hs,h4⟩,hr3⟩:=hq;obtain ⟨ρ',hr'⟩:=hs _ _ _ _ hr3;exact fin σ' ρ' h4 hr'
   | exit id=>obtain ⟨σ3,ρ3,h4,_⟩:=hq;exact h4.elim
   | _=>exact hq.elim
  unfold wpList;rw [hr1'.wanted hgd]
  rcases hrun with ⟨rfl,hst⟩ | ⟨rfl,rfl,rfl⟩
  ·simp only [if_true];refine .inl ((hst.does hr1').wp fun v w' ha=>?_);obtain ⟨ρ',hrel⟩:=hr1'.app (fun t e=>hnt ▸ hdst t e) ha;exact go2 (fun _ _ h=>h) hrel
  ·simp only [Bool.false_eq_true,if_false];obtain ⟨ρ',hrel⟩:=hr1'.app (fun t e=>hnt ▸ hdst t e) (jS hr1'.mem);exact go2 (fun _ _ h=>h) hrel
theorem znh (n k:Nat) {P:Program} {Γ:List (TypeId×TI)} (hT:TOK P Γ) (hm:P.follows .mixedOrders=true) {f cf:FuncId} {fn cfn:Func} {c:Code}
  {args:List SV} {r:SV} {cc:Code} (hf:P.funcs[f]? =some fn) (hb:fn.body=some c) (hn:(fn.name== "runtime.NumGoroutine")=false)
  (hle:Nat.ble args.length fn.ntmps=true) (hcf:P.funcs[cf]? =some cfn) (hcb:cfn.body=some cc) (hcn:(cfn.name== "runtime.NumGoroutine")=false)
  (h:vcDf n P Γ fn cfn cf cc r k c ⟨qE 0 args,[],0,fn.ntmps,0⟩):ze P f args [] r []:=by
 refine ⟨⟨fn,hf,hn,by rw [hb];rfl⟩,fun Keep ρ w vs hk hmem hρ hgs=>?_⟩;have hRF:∃RF:Ending->World->Prop,∀e w',RF e w'↔∃v ρ',e=.returned v/\Stp (Own [] ρ) (Own [] ρ') ρ ρ' w w'/\zz Keep [] ρ' w'/\G (fun b=>Keep b∨Own [] ρ' b) (Own [] ρ') ρ' w' r v:=⟨_,fun _ _=>Iff.rfl⟩;obtain ⟨RF,hRF⟩:=hRF;refine Calls.mono ?_ fun e w' h=>(hRF e w').1 h
 refine calls_of_wp_defers hf hb ?_;have hrel:=ub (nt:=fn.ntmps) hmem hρ hgs (Nat.le_of_ble_eq_true hle);exact zjI hT hm hcf hcb hcn hk hρ hRF k c hrel h
open Go.Proofs
def jo(t:AF):AF:=⟨ofQ (t.d.v / qH t),ofQ (-t.b.v / qH t),ofQ (-t.c.v / qH t),ofQ (t.a.v / qH t),zBR,zBR⟩
def zh5(t:AF):AF:={ jo t with e:=ofQ (-(yY (jo t) t.e.v t.f.v)),f:=ofQ (-(yZ (jo t) t.e.v t.f.v)) }
def zdp(t:AF):AF×Int:=if ¬t.ok then (kw,5) else if qH t=0 then (kw,9) else if ¬(zh5 t).ok then (kw,5) else (zh5 t,0)
theorem zpG(t:AF):(zh5 t).nrm=zh5 t:=by
 unfold zh5 jo AF.nrm;simp only [zN]
theorem zcR(x y:Rat)(h:y≠0):qA (x / y)<=qA x+qA y:=by
 rw [← zje];have hy:y.num≠0:=fun k=>h (Rat.num_eq_zero.1 k)
 have h1:=uV (n:=x.num*y.den) (Int.mul_ne_zero (zaJ x) hy);have h2:=zZ x.num y.den;have h4:=zZ x.den y.num;have a1:=kj x;have a2:=kj y;have a3:=ku x;have a4:=ku y;omega
theorem zl3(t:AF){n:Nat}(ht:t.le n)(hn:1<=n):qA (qH t)<=4*n+1:=by
 obtain ⟨ha,hb,hc,hd,he,hf⟩:=ht;have l1:=zt t.a;have l2:=zt t.b;have l3:=zt t.c;have l4:=zt t.d;have m1:=qr t.a.v t.d.v;have m2:=qr t.b.v t.c.v;have m3:=zjd (t.a.v*t.d.v) (t.b.v*t.c.v);show qA (t.a.v*t.d.v - t.b.v*t.c.v)<=_;omega
theorem zl4{t:AF}{n:Nat}(ht:t.le n)(hn:1<=n)(h0:qH t≠0):(jo t).le (5*n+1):=by
 have hd':=zl3 t ht hn;obtain ⟨ha,hb,hc,hd,he,hf⟩:=ht;have l1:=zt t.a;have l2:=zt t.b;have l3:=zt t.c;have l4:=zt t.d;have n2:=yM t.b.v;have n3:=yM t.c.v;have q1:=zcR t.d.v (qH t) h0;have q2:=zcR (-t.b.v) (qH t) h0;have q3:=zcR (-t.c.v) (qH t) h0;have q4:=zcR t.a.v (qH t) h0;refine ⟨?_,?_,?_,?_,?_,?_⟩
 ·show (ofQ _).len<=_;rw [zo];omega
 ·show (ofQ _).len<=_;rw [zo];omega
 ·show (ofQ _).len<=_;rw [zo];omega
 ·show (ofQ _).len<=_;rw [zo];omega
 ·show 0<=_;omega
 ·show 0<=_;omega
theorem zl5{t:AF}{n:Nat}(ht:t.le n)(hn:1<=n)(h0:qH t≠0):(zh5 t).le (100*n+100):=by
 have hi:=zl4 ht hn h0;obtain ⟨ha,hb,hc,hd,he,hf⟩:=ht;obtain ⟨ia,ib,ic,id,ie,if'⟩:=hi;have m1:=kK (n:=5*n+1) (jo t).a t.e (jo t).c t.f (jo t).e ia oM ic oM ie;have m2:=kK (n:=5*n+1) (jo t).b t.e (jo t).d t.f (jo t).f ib oM id oM if'
 refine ⟨?_,?_,?_,?_,?_,?_⟩
 ·show (jo t).a.len<=_;omega
 ·show (jo t).b.len<=_;omega
 ·show (jo t).c.len<=_;omega
 ·show (jo t).d.len<=_;omega
 ·show (ofQ (-(yY (jo t) t.e.v t.f.v))).len<=_;rw [zo,yM];have:qA (yY (jo t) t.e.v t.f.v)<=5*(5*n+1)+7:=m1.2;omega
 ·show (ofQ (-(yZ (jo t) t.e.v t.f.v))).len<=_;rw [zo,yM];have:qA (yZ (jo t) t.e.v t.f.v)<=5*(5*n+1)+7:=m2.2;omega
theorem a_by(x d:BR)(hx:x.len<=1000000)(hd:d.len<=1000000)(h0:d.v≠0):ze Tryz.prog 90 [.agg (brE x),.ptr (brE d)] [] (.agg (brE (ofQ (x.v / d.v)))) []:=by
 refine zd tok mix Tryz.func90 rfl rfl rfl ?_;refine zb.t (q_quo x d oM oM h0) ?_;exact .refl
theorem zpH(t:AF)(ht:t.le 100):ze Tryz.prog 43 [.agg (afE t)] [] (.tup [.agg (afE (zdp t).1),i64 (zdp t).2]) []:=by
 have bad:∀n,zdp t=(kw,n)->LE (.tup [.agg jb,i64 n]) (.tup [.agg (afE (zdp t).1),i64 (zdp t).2]):=fun n h=>by
  rw [h];exact zS uf .refl
 have hd':=zl3 t ht dC;refine zd tok mix Tryz.func43 rfl rfl rfl ?_;refine zb.t (vP t (ht.up dC)) ?_;refine Br.mk (fun h=>bad 5 (if_pos h)) (fun h1=>?_);refine zb.t (zdG t (ht.up dC)) ?_;refine Dr.k ?_;refine zb.t (qG 0 dC) ?_;refine zb.t (zcz (ofQ (qH t)) (ofQ ((0:Int):Rat)) (by rw [zo];omega) (by decide +kernel)) ?_;rw [zN,zN];refine Br.mk (fun h=>bad 9 ((if_neg h1).trans (if_pos (kL.1 h)))) (fun h=>?_);have h0:qH t≠0:=fun k=>h (kL.2 k)
 have hi:=zl4 ht dC h0;have hA:=zl5 ht dC h0;have ht':=ht;obtain ⟨ha,hb,hc,hd,he,hf⟩:=ht;have hdv:(ofQ (qH t)).v≠0:=by rw [zN];exact h0
 have lb:=zt t.b;have lc:=zt t.c;have nb:=yM t.b.v;have nc:=yM t.c.v;refine Dr.k ?_;refine zb.t (a_by t.d (ofQ (qH t)) oM (by rw [zo];omega) hdv) ?_;refine zb.t (zlH t.b oM) ?_;refine zb.t (a_by (ofQ (-t.b.v)) (ofQ (qH t)) (by rw [zo];omega) (by rw [zo];omega) hdv) ?_;refine zb.t (zlH t.c oM) ?_;refine zb.t (a_by (ofQ (-t.c.v)) (ofQ (qH t)) (by rw [zo];omega) (by rw [zo];omega) hdv) ?_;refine zb.t (a_by t.a (ofQ (qH t)) oM (by rw [zo];omega) hdv) ?_;rw [zN,zN,zN]
 have h24:LEs (brE (jo t).a++(brE (jo t).b++(brE (jo t).c++(brE (jo t).d++(z4++z4))))) (afE (jo t)):=
  LEs.append .refl (LEs.append .refl (LEs.append .refl (LEs.append .refl (LEs.append qh qh))))
 have mX:=kK (n:=501) (jo t).a t.e (jo t).c t.f (jo t).e hi.1 oM hi.2.2.1 oM hi.2.2.2.2.1;have mY:=kK (n:=501) (jo t).b t.e (jo t).d t.f (jo t).f hi.2.1 oM hi.2.2.2.1 oM hi.2.2.2.2.2;have mX2:qA (yY (jo t) t.e.v t.f.v)<=5*501+7:=mX.2;have mY2:qA (yZ (jo t) t.e.v t.f.v)<=5*501+7:=mY.2;refine zb.t ((zd9 (jo t) t.e t.f (hi.up dC) oM oM).args (.cons (zuI h24) (.cons .refl (.cons .refl .nil)))) ?_;refine Dr.k ?_;refine zb.t (zlH (ofQ (yY (jo t) t.e.v t.f.v)) (by rw [zo];omega)) ?_;refine zb.t (zlH (ofQ (yZ (jo t) t.e.v t.f.v)) (by rw [zo];omega)) ?_;rw [zN,zN]
 refine zb.t (vP (zh5 t) (hA.up dC)) ?_;refine Br.mk (fun h=>bad 5 ((if_neg h1).trans ((if_neg h0).trans (if_pos h)))) (fun h=>?_);refine zb.t (zdH (zh5 t) (hA.up dC)) ?_;rw [zpG,show zdp t=(zh5 t,0) from (if_neg h1).trans ((if_neg h0).trans (if_neg h))];exact zS .refl .refl
theorem ztC(x d:BR)(hx:x.len<=1000000)(hd:d.len<=1000000)(h0:d.v≠0):ze Tryz.prog 96 [.agg (brE x),.agg (brE d)] [] (.agg (brE (ofQ (x.v / d.v)))) []:=by
 refine zd tok mix Tryz.func96 rfl rfl rfl ?_;refine zb.t (zuA x d oM oM h0) ?_;exact .refl
theorem zt5(x y:Rat): -(x / y)= -x / y:=by rw [Rat.div_def,Rat.div_def,Rat.neg_mul]
theorem zt2(t:AF)(ht:t.le 100):ze Tryz.prog 47 [.agg (afE t)] [] (.tup [.agg (afE (zdp t).1),i64 (zdp t).2]) []:=by
 have bad:∀n,zdp t=(kw,n)->LE (.tup [.agg jb,i64 n]) (.tup [.agg (afE (zdp t).1),i64 (zdp t).2]):=fun n h=>by
  rw [h];exact zS uf .refl
 have hd':=zl3 t ht dC;refine zd tok mix Tryz.func47 rfl rfl rfl ?_;refine zb.t (zbq t (ht.up dC)) ?_;refine Br.mk (fun h=>bad 5 (if_pos h)) (fun h1=>?_);refine zb.t (zlJ t (ht.up dC)) ?_;refine Dr.k ?_;refine zb.t (qg 0 dC) ?_;refine zb.t (zhO (ofQ (qH t)) (ofQ ((0:Int):Rat)) (by rw [zo];omega) (by decide +kernel)) ?_;rw [zN,zN];refine Br.mk (fun h=>bad 9 ((if_neg h1).trans (if_pos (kL.1 h)))) (fun h=>?_);have h0:qH t≠0:=fun k=>h (kL.2 k)
 have hi:=zl4 ht dC h0;have hA:=zl5 ht dC h0;obtain ⟨ha,hb,hc,hd,he,hf⟩:=ht;obtain ⟨ia,ib,ic,id,ie,if'⟩:=hi;have hdv:(ofQ (qH t)).v≠0:=by rw [zN];exact h0
 have lb:=zt t.b;have lc:=zt t.c;have qb:=zcR t.b.v (qH t) h0;have qc:=zcR t.c.v (qH t) h0;refine Dr.k ?_;refine zb.t (ztC t.d (ofQ (qH t)) oM (by rw [zo];omega) hdv) ?_;refine zb.t (ztC t.b (ofQ (qH t)) oM (by rw [zo];omega) hdv) ?_;rw [zN];refine zb.t (zsL (ofQ (t.b.v / qH t)) (by rw [zo];omega)) ?_;refine zb.t (ztC t.c (ofQ (qH t)) oM (by rw [zo];omega) hdv) ?_;rw [zN,zN];refine zb.t (zsL (ofQ (t.c.v / qH t)) (by rw [zo];omega)) ?_;refine zb.t (ztC t.a (ofQ (qH t)) oM (by rw [zo];omega) hdv) ?_;rw [zN,zN,zt5,zt5]
 have eX:yY (jo t) t.e.v t.f.v=(jo t).a.v*t.e.v+(jo t).c.v*t.f.v:=by
  unfold yY;rw [show (jo t).e.v=0 from zt3,Rat.add_zero]
 have eY:yZ (jo t) t.e.v t.f.v=(jo t).b.v*t.e.v+(jo t).d.v*t.f.v:=by
  unfold yZ;rw [show (jo t).f.v=0 from zt3,Rat.add_zero]
 have mX:=kK (n:=501) (jo t).a t.e (jo t).c t.f (jo t).e ia oM ic oM ie;have mY:=kK (n:=501) (jo t).b t.e (jo t).d t.f (jo t).f ib oM id oM if'
 refine zb.t (zbr (jo t).a t.e (jo t).c t.f oM oM oM oM) ?_;rw [← eX];refine zb.t (zsL (ofQ (yY (jo t) t.e.v t.f.v)) (by rw [zo,eX];omega)) ?_;refine zb.t (zbr (jo t).b t.e (jo t).d t.f oM oM oM oM) ?_;rw [← eY];refine zb.t (zsL (ofQ (yZ (jo t) t.e.v t.f.v)) (by rw [zo,eY];omega)) ?_;rw [zN,zN];refine zb.t (zbq (zh5 t) (hA.up dC)) ?_;refine Br.mk (fun h=>bad 5 ((if_neg h1).trans ((if_neg h0).trans (if_pos h)))) (fun h=>?_);rw [show zdp t=(zh5 t,0) from (if_neg h1).trans ((if_neg h0).trans (if_neg h))];exact zS .refl .refl
structure Pix where
 r:Int
 g:Int
 b:Int
 a:Int
 deriving DecidableEq
def zcS(p:Pix):List SV:=[u8 p.r,u8 p.g,u8 p.b,u8 p.a]
structure Img where
 w:Int
 h:Int
 px:List Pix
 deriving DecidableEq
def zfB(m:Img):List SV:=[i64 m.w,i64 m.h,.sl zcS m.px]
def zb3(p:Pix):Prop:=p.r<=p.a/\p.g<=p.a/\p.b<=p.a
instance (p:Pix):Decidable (zb3 p):=inferInstanceAs (Decidable (_/\_))
def zbL(m:Img):Prop:=(1<=m.w/\m.w<=4096)/\(1<=m.h/\m.h<=4096)/\m.w*m.h<=65536/\(m.px.length:Int)=m.w*m.h/\∀p∈m.px,zb3 p
instance (m:Img):Decidable (zbL m):=inferInstanceAs (Decidable (_/\_))
theorem zcT(x r g b a:Int):ze Tryz.prog 349 [u8 x,.ptr [u8 r,u8 g,u8 b,u8 a]] [] (u8 (min x a)) []:=by
 refine zd tok mix Tryz.func349 rfl rfl rfl ?_;exact zm rfl
theorem zs4(p:Pix)(r g b a:Int):ze Tryz.prog 348 [.agg (zcS p),.fn 349 [.ptr [u8 r,u8 g,u8 b,u8 a]]] [] (.agg [u8 (min p.r a),u8 (min p.g a),u8 (min p.b a),u8 (min p.a a)]) []:=by
 refine zd tok mix Tryz.func348 rfl rfl rfl ?_;refine Dr.k ?_;refine zb.t (zcT _ r g b a) ?_;refine zb.t (zcT _ r g b a) ?_;refine zb.t (zcT _ r g b a) ?_;refine zb.t (zcT _ r g b a) ?_;exact .refl
theorem zpI(p:Pix):ze Tryz.prog 313 [.agg (zcS p)] [] (.agg [u8 (min p.r p.a),u8 (min p.g p.a),u8 (min p.b p.a),u8 (min p.a p.a)]) []:=by
 refine zd tok mix Tryz.func313 rfl rfl rfl ?_;refine zb.t (zs4 p p.r p.g p.b p.a) ?_;exact .refl
theorem zpJ(p:Pix):ze Tryz.prog 267 [.agg (zcS p)] [] (pr (zb3 p)) []:=by
 refine zd tok mix Tryz.func267 rfl rfl rfl ?_;refine Dr.k ?_;refine zb.t (zpI p) ?_;refine zu (p:=min p.r p.a=p.r/\min p.g p.a=p.g/\min p.b p.a=p.b/\min p.a p.a=p.a/\True) ?_;constructor
 ·rintro ⟨h1,h2,h3,_⟩
  exact ⟨oM,oM,oM⟩
 ·rintro ⟨h1,h2,h3⟩
  exact ⟨oM,oM,oM,oM,trivial⟩
theorem znk(p:Pix):ze Tryz.prog 266 [.agg (zcS p)] [] (pr (¬zb3 p)) []:=by
 refine zd tok mix Tryz.func266 rfl rfl rfl ?_;refine zb.t (zpJ p) ?_;exact zu Iff.rfl
def zb4(xs:List Pix):Int:=match xs.findIdx? (fun p=>decide (¬zb3 p)) with
 | some i=>i
 | none=> -1
theorem znl{xs:List Pix}{i:Nat}{p:Pix}(h:∀(j:Nat) q,j < i->xs[j]? =some q->zb3 q)(hi:xs[i]? =some p)(hp:¬zb3 p):zb4 xs=i:=by
 have:xs.findIdx? (fun p=>decide (¬zb3 p))=some i:=by
  rw [List.findIdx?_eq_some_iff_getElem];obtain ⟨hl,he⟩:=List.getElem?_eq_some_iff.1 hi;refine ⟨hl,by simp [he,hp],fun j hj=>?_⟩;have:=h j xs[j] hj (List.getElem?_eq_getElem _);simp [this]
 simp only [zb4,this]
theorem zdO{xs:List Pix}(h:∀p∈xs,zb3 p):zb4 xs= -1:=by
 have:xs.findIdx? (fun p=>decide (¬zb3 p))=none:=by
  rw [List.findIdx?_eq_none_iff];intro p hp;simp [h p hp]
 simp only [zb4,this]
theorem zf9{xs:List Pix}:0<=zb4 xs↔¬∀p∈xs,zb3 p:=by
 constructor
 ·intro h hall;rw [zdO hall] at h;omega
 ·intro h;unfold zb4
  split
  ·omega
  ·rename_i hn;rw [List.findIdx?_eq_none_iff] at hn;exact absurd (fun p hp=>by simpa using hn p hp) h
theorem zre(xs:List Pix)(hl:xs.length<=9223372036854775807):ze Tryz.prog 312 [.sl zcS xs,.fn 266 []] [] (i64 (zb4 xs)) []:=by
 refine zd tok mix Tryz.func312 rfl rfl rfl ?_;intro hl0;refine ⟨Int,fun i=>⟨[(8,i64 i),(7,i64 xs.length),(0,.sl zcS xs),(1,.fn 266 [])],[],0,19,0⟩,fun i=>0<=i/\i<=xs.length/\∀(j:Nat) q,(j:Int) < i->xs[j]? =some q->zb3 q,fun i=>((xs.length:Int) - i).toNat,0,?_,?_,?_⟩
 ·exact ⟨oM,oM,fun j q hj=>by omega⟩
 ·exact zi []
 rintro i ⟨h1,h2,h3⟩
 refine Br.mk (fun h4=>?_) (fun h4=>?_)
 ·refine Ob.o ?_;intro x hx;refine zb.t (znk x) ?_;refine Br.mk (fun h5=>?_) (fun h5=>?_)
  ·refine zm ?_;rw [znl (i:=i.toNat) (fun j q hj=>h3 j q oM) hx h5];omega
  ·refine Ar.o ?_;refine ⟨i+1,⟨oM,oM,fun j q hj hq=>?_⟩,zi [],by dsimp only;omega⟩
   by_cases e:j=i.toNat
   ·subst e;rw [hx] at hq;cases hq;exact Decidable.not_not.1 h5
   ·exact h3 j q oM hq
 ·refine zm (zdO fun p hp=>?_).symm;obtain ⟨j,hj,he⟩:=List.getElem_of_mem hp;exact h3 j p oM (by rw [← he];exact List.getElem?_eq_getElem hj)
theorem zkY(xs:List Pix)(hl:xs.length<=9223372036854775807):ze Tryz.prog 265 [.sl zcS xs,.fn 266 []] [] (pr (¬∀p∈xs,zb3 p)) []:=by
 refine zd tok mix Tryz.func265 rfl rfl rfl ?_;refine zb.t (zre xs hl) ?_;exact zu zf9
theorem zr6(n:Int):ze Tryz.prog 264 [i64 n] [] (pr (1<=n/\n<=4096)) []:=by
 refine zd tok mix Tryz.func264 rfl rfl rfl ?_;refine Br.mk (fun h=>?_) (fun h=>?_)
 ·exact zu oM
 ·exact zc oM
theorem zpK{a b A B:Int}(h1:0<=a)(h2:a<=A)(h3:0<=b)(h4:b<=B):0<=a*b/\a*b<=A*B:=
 ⟨Int.mul_nonneg h1 h3,Int.mul_le_mul h2 h4 h3 oM⟩
theorem zgV(m:Img)(hl:m.px.length<=9223372036854775807):ze Tryz.prog 220 [.agg (zfB m)] [] (pr (zbL m)) []:=by
 refine zd tok mix Tryz.func220 rfl rfl rfl ?_;refine zb.t (zr6 m.w) ?_;refine Br.mk (fun h1=>?_) (fun h1=>?_)
 ·exact zc (fun h=>h1 h.1)
 have h1:=Decidable.not_not.1 h1;refine zb.t (zr6 m.h) ?_;refine Br.mk (fun h2=>?_) (fun h2=>?_)
 ·exact zc (fun h=>h2 h.2.1)
 have h2:=Decidable.not_not.1 h2;have hm:=zpK (show 0<=m.w by omega) h1.2 (show 0<=m.h by omega) h2.2;refine Ar.o ?_;refine Br.mk (fun h3=>?_) (fun h3=>?_)
 ·exact zc (fun h=>by have:=h.2.2.1;omega)
 intro hl0;refine Ar.o ?_;refine Br.mk (fun h4=>?_) (fun h4=>?_)
 ·exact zc (fun h=>h4 h.2.2.2.1)
 refine zb.t (zkY m.px hl) ?_;refine zu ?_;exact ⟨fun h=>⟨h1,h2,oM,Decidable.not_not.1 h4,Decidable.not_not.1 h⟩,fun h h'=>h' h.2.2.2.2⟩
theorem zs5(w h:Int):ze Tryz.prog 279 [i64 w,i64 h] [] (pr ((1<=w/\w<=4096)/\(1<=h/\h<=4096)/\w*h<=65536)) []:=by
 refine zd tok mix Tryz.func279 rfl rfl rfl ?_;refine Br.mk (fun h1=>?_) (fun h1=>zc oM);refine Br.mk (fun h2=>?_) (fun h2=>zc oM);refine Br.mk (fun h3=>?_) (fun h3=>zc oM);refine Br.mk (fun h4=>?_) (fun h4=>zc oM);have hm:=zpK (show 0<=w by omega) h2 (show 0<=h by omega) h4;refine Ar.o ?_;exact zu ⟨fun h=>⟨⟨h1,h2⟩,⟨h3,h4⟩,h⟩,fun h=>h.2.2⟩
theorem znm(p:Pix):ze Tryz.prog 280 [.agg (zcS p)] [] (pr (zb3 p)) []:=by
 refine zd tok mix Tryz.func280 rfl rfl rfl ?_;refine Br.mk (fun h1=>?_) (fun h1=>zc (fun h=>h1 h.1));refine Br.mk (fun h2=>?_) (fun h2=>zc (fun h=>h2 h.2.1));exact zu ⟨fun h=>⟨h1,h2,h⟩,fun h=>h.2.2⟩
theorem zfC(m:Img):ze Tryz.prog 229 [.agg (zfB m)] [] (pr (zbL m)) []:=by
 refine zd tok mix Tryz.func229 rfl rfl rfl ?_;refine zb.t (zs5 m.w m.h) ?_;refine Br.mk (fun h1=>zc (fun h=>h1 ⟨h.1,h.2.1,h.2.2.1⟩)) (fun h1=>?_);have h1:=Decidable.not_not.1 h1;have hm:=zpK (show 0<=m.w by omega) h1.1.2 (show 0<=m.h by omega) h1.2.1.2;intro hl0;refine Ar.o ?_;refine Br.mk (fun h4=>zc (fun h=>h4 h.2.2.2.1)) (fun h4=>?_);have h4:=Decidable.not_not.1 h4
 refine ⟨Int,fun i=>⟨[(3,i64 i),(1,.loc 0 0)],[(0,.box 64 (zfB m))],1,35,0⟩,fun i=>0<=i/\i<=m.px.length/\∀(j:Nat) q,(j:Int) < i->m.px[j]? =some q->zb3 q,fun i=>((m.px.length:Int) - i).toNat,0,?_,?_,?_⟩
 ·exact ⟨oM,oM,fun j q hj=>by omega⟩
 ·exact zi [(0,some 0)]
 rintro i ⟨g1,g2,g3⟩
 intro hl1;refine Br.mk (fun g4=>?_) (fun g4=>?_)
 ·refine Ob.o ?_;intro x hx;refine zb.t (znm x) ?_;refine Br.mk (fun g5=>?_) (fun g5=>?_)
  ·exact zc fun h=>g5 (h.2.2.2.2 x (List.mem_of_getElem? hx))
  ·refine Ar.o ?_;refine ⟨i+1,⟨oM,oM,fun j q hj hq=>?_⟩,zi [(0,some 0)],by dsimp only;omega⟩
   by_cases e:j=i.toNat
   ·subst e;rw [hx] at hq;cases hq;exact Decidable.not_not.1 g5
   ·exact g3 j q oM hq
 ·refine zH ⟨h1.1,h1.2.1,h1.2.2,h4,fun p hp=>?_⟩;obtain ⟨j,hj,he⟩:=List.getElem_of_mem hp;exact g3 j p oM (by rw [← he];exact List.getElem?_eq_getElem hj)
theorem zfD{p q:Pix}:(p.r=q.r/\p.g=q.g/\p.b=q.b/\p.a=q.a/\True)↔p=q:=by
 cases p;cases q;simp
theorem zrf{xs ys:List Pix}{i:Int}(hl:(xs.length:Int)=ys.length)(hi:¬i < xs.length)(h:∀j:Nat,(j:Int) < i->xs[j]? =ys[j]?):xs=ys:=by
 refine List.ext_getElem? fun j=>?_
 by_cases hj:(j:Int) < i
 ·exact h j hj
 ·rw [List.getElem?_eq_none oM,List.getElem?_eq_none oM]
theorem zrg(xs ys:List Pix):ze Tryz.prog 308 [.sl zcS xs,.sl zcS ys] [] (pr (xs=ys)) []:=by
 refine zd tok mix Tryz.func308 rfl rfl rfl ?_;intro hl1 hl2;refine Br.mk (fun h1=>zc fun e=>h1 (by rw [e])) (fun h1=>?_);have h1:=Decidable.not_not.1 h1;intro hl3;refine ⟨Int,fun i=>⟨[(13,i64 i),(12,i64 xs.length),(0,.sl zcS xs),(1,.sl zcS ys)],[],0,26,0⟩,fun i=>0<=i/\i<=xs.length/\∀j:Nat,(j:Int) < i->xs[j]? =ys[j]?,fun i=>((xs.length:Int) - i).toNat,0,?_,?_,?_⟩
 ·exact ⟨oM,oM,fun j hj=>by omega⟩
 ·exact zi []
 rintro i ⟨h4,h5,h6⟩
 refine Br.mk (fun h7=>?_) (fun h7=>?_)
 ·refine Dr.k ?_;refine Ob.o ?_;intro x hx;refine Ob.o ?_;intro y hy;refine Br.mk (fun h8=>?_) (fun h8=>?_)
  ·refine zc fun e=>h8 (zfD.2 ?_)
   subst e;rw [hx] at hy;exact Option.some.inj hy
  ·refine Ar.o ?_;refine ⟨i+1,⟨oM,oM,fun j hj=>?_⟩,zi [],by dsimp only;omega⟩
   by_cases e:j=i.toNat
   ·subst e;rw [hx,hy,zfD.1 (Decidable.not_not.1 h8)]
   ·exact h6 j oM
 ·exact zH (zrf h1 h7 h6)
theorem zgW(m n:Img):ze Tryz.prog 262 [.agg (zfB m),.agg (zfB n)] [] (pr (m=n)) []:=by
 refine zd tok mix Tryz.func262 rfl rfl rfl ?_;refine Br.mk (fun h1=>?_) (fun h1=>zc fun e=>h1 (by rw [e]));refine Br.mk (fun h2=>?_) (fun h2=>zc fun e=>h2 (by rw [e]));refine zb.t (zrg m.px n.px) ?_;refine zu ⟨fun h=>?_,fun h=>by rw [h]⟩
 cases m;cases n;simp_all
def zaX:Pix:=⟨0,0,0,0⟩
structure zfE where
 o:Int
 c:Pix
 deriving DecidableEq
def zcU(s:zfE):List SV:=[i64 s.o,u8 s.c.r,u8 s.c.g,u8 s.c.b,u8 s.c.a]
theorem zl6{p q:zfE}:(p.o=q.o/\p.c.r=q.c.r/\p.c.g=q.c.g/\p.c.b=q.c.b/\p.c.a=q.c.a/\True)↔p=q:=by
 rcases p with ⟨a,b,c,d,e⟩;rcases q with ⟨a',b',c',d',e'⟩;simp
def zkZ:Int->List zfE->Prop
 | _,[]=>True
 | lo,s::l=>(lo<=s.o/\s.o<=65536)/\zkZ s.o l
instance upDec:∀lo l,Decidable (zkZ lo l)
 | _,[]=>isTrue trivial
 | _,s::l=>haveI:=upDec s.o l;inferInstanceAs (Decidable (_/\_))
def zby(l:List zfE):Prop:=(1<=(l.length:Int)/\(l.length:Int)<=16)/\zkZ 0 l
instance (l:List zfE):Decidable (zby l):=inferInstanceAs (Decidable (_/\_))
theorem zpL(l:List zfE):ze Tryz.prog 360 [.sl zcU l] [] (pr (zby l)) []:=by
 refine zd tok mix Tryz.func360 rfl rfl rfl ?_;intro hl1;refine Br.mk (fun h=>zc (fun k=>by have:=k.1.1;omega)) (fun h2=>?_);intro hl2;refine Br.mk (fun h=>zc (fun k=>by have:=k.1.2;omega)) (fun h3=>?_);intro hl4;refine ⟨Int×Int,fun ⟨i,at_⟩=>⟨[(3,i64 at_),(14,.sl zcU l),(15,i64 l.length),(16,i64 i)],[],0,32,0⟩,fun (i,at_)=>0<=i/\i<=l.length/\(zkZ 0 l↔zkZ at_ (l.drop i.toNat)),fun (i,_)=>((l.length:Int) - i).toNat,(0,0),?_,?_,?_⟩
 ·exact ⟨oM,oM,Iff.rfl⟩
 ·exact zi []
 rintro ⟨i,at_⟩ ⟨g1,g2,g3⟩
 refine Br.mk (fun h5=>?_) (fun h5=>?_)
 ·refine Ob.o ?_;intro x hx
  have hd:l.drop i.toNat=x::l.drop (i.toNat+1):=by
   obtain ⟨hi,he⟩:=List.getElem?_eq_some_iff.1 hx;rw [List.drop_eq_getElem_cons hi,he]
  rw [hd] at g3;refine Br.mk (fun h6=>zc (fun k=>by have:=(g3.1 k.2).1;omega)) (fun h6=>?_);refine Br.mk (fun h7=>zc (fun k=>by have:=(g3.1 k.2).1;omega)) (fun h7=>?_);refine Ar.o ?_;refine ⟨(i+1,x.o),⟨oM,oM,?_⟩,zi [],by dsimp only;omega⟩;rw [g3,show (i+1).toNat=i.toNat+1 by omega];exact ⟨fun k=>k.2,fun k=>⟨oM,k⟩⟩
 ·refine zH ⟨oM,g3.2 ?_⟩;rw [List.drop_eq_nil_of_le oM];trivial
theorem zgX(l:List zfE):ze Tryz.prog 364 [.sl zcU l] [] (pr (zby l)) []:=by
 refine zd tok mix Tryz.func364 rfl rfl rfl ?_;refine ⟨Int×Int,fun ⟨i,_⟩=>⟨[(0,.sl zcU l),(3,i64 i)],[],0,50,0⟩,fun (i,at_)=>0<=i/\i<=l.length/\(i=0->at_=0)/\(0 < i->0<=at_/\∃y,l[(i - 1).toNat]? =some y/\y.o=at_)/\(zkZ 0 l↔zkZ at_ (l.drop i.toNat)),fun (i,_)=>((l.length:Int) - i).toNat,(0,0),?_,?_,?_⟩
 ·exact ⟨oM,oM,fun _=>rfl,fun h=>by omega,Iff.rfl⟩
 ·exact zi []
 rintro ⟨i,at_⟩ ⟨g1,g2,g4,g5,g3⟩
 intro hl1;refine Br.mk (fun h5=>?_) (fun h5=>?_)
 ·refine Dr.k ?_;refine Ob.o ?_;intro x hx
  have hd:l.drop i.toNat=x::l.drop (i.toNat+1):=by
   obtain ⟨hi,he⟩:=List.getElem?_eq_some_iff.1 hx;rw [List.drop_eq_getElem_cons hi,he]
  rw [hd] at g3
  have hat:0<=at_:=by
   by_cases h0:0 < i
   ·exact (g5 h0).1
   ·have:=g4 oM;omega
  refine Br.mk (fun h6=>zc (fun k=>by have:=(g3.1 k.2).1;omega)) (fun h6=>?_);refine Ob.o ?_;intro x' hx';rw [hx] at hx';cases hx'
  refine Br.mk (fun h7=>zc (fun k=>by have:=(g3.1 k.2).1;omega)) (fun h7=>?_);refine Br.mk (fun h8=>?_) (fun h8=>?_)
  ·obtain ⟨_,y,hy,hyo⟩:=g5 h8;refine Ob.o ?_;intro x' hx';rw [hx] at hx';cases hx'
   refine Ar.o ?_;refine Ob.o ?_;intro y' hy';rw [hy] at hy';cases hy'
   refine Br.mk (fun h9=>zc (fun k=>by have:=(g3.1 k.2).1;omega)) (fun h9=>?_);refine Ar.o ?_;refine ⟨(i+1,x.o),⟨oM,oM,fun h=>by omega,fun _=>⟨oM,x,by rw [show (i+1 - 1).toNat=i.toNat by omega];exact hx,rfl⟩,?_⟩,zi [],by dsimp only;omega⟩;rw [g3,show (i+1).toNat=i.toNat+1 by omega];exact ⟨fun k=>k.2,fun k=>⟨oM,k⟩⟩
  ·refine Ar.o ?_;have:=g4 oM;refine ⟨(i+1,x.o),⟨oM,oM,fun h=>by omega,fun _=>⟨oM,x,by rw [show (i+1 - 1).toNat=i.toNat by omega];exact hx,rfl⟩,?_⟩,zi [],by dsimp only;omega⟩;rw [g3,show (i+1).toNat=i.toNat+1 by omega];exact ⟨fun k=>k.2,fun k=>⟨oM,k⟩⟩
 ·have hall:zkZ 0 l:=g3.2 (by rw [List.drop_eq_nil_of_le oM];trivial);intro hl2;refine Br.mk (fun h6=>?_) (fun h6=>?_)
  ·intro hl3;exact zu ⟨fun k=>⟨⟨oM,k⟩,hall⟩,fun k=>k.1.2⟩
  ·exact zc fun k=>h6 k.1.1
theorem zk0{xs ys:List zfE}{i:Int}(hl:(xs.length:Int)=ys.length)(hi:¬i < xs.length)(h:∀j:Nat,(j:Int) < i->xs[j]? =ys[j]?):xs=ys:=by
 refine List.ext_getElem? fun j=>?_
 by_cases hj:(j:Int) < i
 ·exact h j hj
 ·rw [List.getElem?_eq_none oM,List.getElem?_eq_none oM]
theorem zrh(xs ys:List zfE):ze Tryz.prog 359 [.sl zcU xs,.sl zcU ys] [] (pr (xs=ys)) []:=by
 refine zd tok mix Tryz.func359 rfl rfl rfl ?_;intro hl1 hl2;refine Br.mk (fun h1=>zc fun e=>h1 (by rw [e])) (fun h1=>?_);have h1:=Decidable.not_not.1 h1;intro hl3;refine ⟨Int,fun i=>⟨[(13,i64 i),(12,i64 xs.length),(0,.sl zcU xs),(1,.sl zcU ys)],[],0,26,0⟩,fun i=>0<=i/\i<=xs.length/\∀j:Nat,(j:Int) < i->xs[j]? =ys[j]?,fun i=>((xs.length:Int) - i).toNat,0,?_,?_,?_⟩
 ·exact ⟨oM,oM,fun j hj=>by omega⟩
 ·exact zi []
 rintro i ⟨h4,h5,h6⟩
 refine Br.mk (fun h7=>?_) (fun h7=>?_)
 ·refine Dr.k ?_;refine Ob.o ?_;intro x hx;refine Ob.o ?_;intro y hy;refine Br.mk (fun h8=>?_) (fun h8=>?_)
  ·refine zc fun e=>h8 (zl6.2 ?_)
   subst e;rw [hx] at hy;exact Option.some.inj hy
  ·refine Ar.o ?_;refine ⟨i+1,⟨oM,oM,fun j hj=>?_⟩,zi [],by dsimp only;omega⟩
   by_cases e:j=i.toNat
   ·subst e;rw [hx,hy,zl6.1 (Decidable.not_not.1 h8)]
   ·exact h6 j oM
 ·exact zH (zk0 h1 h7 h6)
def zjK(m:Int):Prop:=1<=m/\m<=3
instance (m:Int):Decidable (zjK m):=inferInstanceAs (Decidable (_/\_))
end Go.Gs
