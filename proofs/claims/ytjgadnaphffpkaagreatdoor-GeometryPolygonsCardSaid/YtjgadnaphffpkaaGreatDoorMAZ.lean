/- A function that puts one call off, after any pieces of code, some of which may return: its results are data. -/
import Derived.Test.YtjgadnaphffpkaaGreatDoorMA
import Derived.Test.YtjgadnaphffpkaaGreatDoorMAY
import Derived.Test.YtjgadnaphffpkaaGreatDoorMAO
import Derived.Test.YtjgadnaphffpkaaGreatDoorMAN
import Derived.Test.YtjgadnaphffpkaaGreatDoorMAP
import Derived.Test.YtjgadnaphffpkaaGreatDoorMAM
set_option maxRecDepth 100000
set_option maxHeartbeats 8000000
set_option linter.all false
namespace Go.Gs
def zsX(n:Nat)(P:Program)(Γ:List (TypeId×TI))(fn cfn:Func)(cc:Code)(caps:List SV)(r:SV)(σ3:St):Prop:=
 Nat.beq σ3.M.length σ3.nk=true/\jK P Γ cc ⟨yb 0 caps,σ3.M,σ3.M.length,cfn.ntmps,σ3.M.length⟩ (zAi λσ4=>zbI σ4 Γ cfn.results.toList λ_=>
  zbI ⟨σ3.L.map yZ,σ4.M,σ4.nk,σ3.nt,0⟩ Γ fn.results.toList λs=>LE (zic (zY σ4.M) n s) r)
def zzj(n:Nat)(P:Program)(Γ:List (TypeId×TI))(fn cfn:Func)(cc:Code)(caps:List SV)(r:SV)(σ3:St):Prop:=∃σ',Sub σ3 σ'/\zsX n P Γ fn cfn cc caps r σ'
def zBF(n:Nat)(P:Program)(Γ:List (TypeId×TI))(fn cfn:Func)(cf:FuncId)(t:Tmp)(rest cc:Code)(r:SV)(σ2:St):Prop:=
 ∃caps,qc σ2.L t=some (.fn cf caps)/\Nat.ble caps.length cfn.ntmps=true/\caps.all zxu=true/\jK P Γ rest ⟨σ2.L,σ2.M,σ2.nk,σ2.nt,σ2.nk⟩ (zAi (zzj n P Γ fn cfn cc caps r))
def vcDf(n:Nat)(P:Program)(Γ:List (TypeId×TI))(fn cfn:Func)(cf:FuncId)(cc:Code)(r:SV):Nat->Code->St->Prop
 | 0,c,σ=>∃id o1 o2 rest t,c=.seq (.region id #[o1,o2] false) rest/\o2.op=.defer ⟨.value (.tmp t),#[],#[]⟩/\o2.guard=none/\o2.dst=none/\
   u7 P Γ false [o1,o2] [o1] 0 σ (zBF n P Γ fn cfn cf t rest cc r)
 | k+1,c,σ=>∃x y,c=.seq x y/\jK P Γ x σ λe σ=>match e with
   | .normal=>vcDf n P Γ fn cfn cf cc r k y σ
   | .ret=>zbI σ Γ fn.results.toList λs=>LE (zic (zY σ.M) n s) r
   | .exit _=>False
theorem zxv {E:Env} {M:List (Nat×Mem)} {ρ:zj} {w:World} {n:Nat} {s r:SV} {v:Value} (hm:zN E.Keep M ρ w) (hle:LE (zic (zY M) n s) r)
  (hg:G (λb=>E.Keep b∨Own M ρ b) (Own M ρ) ρ w s v):G (λb=>E.Keep b∨Own [] ρ b) (Own [] ρ) ρ w r v:=by
 have hd:∀{s:SV} {v:Value},G (λb=>E.Keep b∨Own M ρ b) (Own M ρ) ρ w s v->D (λb=>E.Keep b∨Own [] ρ b) w (frz (zY M) n s) v:=λh=>
  (zps (λk m h=>zA h) hm n h).less λb hb=>hb.resolve_right zZ
 refine hle _ _ _ _ _ ?_;unfold zic
 split
 ·rename_i cs;obtain⟨vs,rfl,hvs⟩:=hg.tup_inv;refine .tup _ vs (by rw[XF];exact hvs.1) λj s v hs hv=>?_
  rw[XA]at hs
  cases hc:cs[j]? with
  | none=>simp[hc]at hs
  | some c=>
   simp[hc]at hs;subst hs;exact .d _ _ (hd (hvs.2 j c v hc hv))
 ·exact .d _ _ (hd hg)
theorem zp6 {n:Nat} {P:Program} {Γ:List (TypeId×TI)} (hT:TOK P Γ) (hm:P.follows .mixedOrders=true) {cf:FuncId} {fn cfn:Func} {cc:Code} {r:SV}
  (hcf:P.funcs[cf]? =some cfn) (hcb:cfn.body=some cc) (hcn:(cfn.name== "runtime.NumGoroutine")=false) {Keep:Nat->Prop} {ρ:zj} {w:World} (hk:∀b,Keep b->b < w.heap.size) (hρ:∀k,0<=k->ρ k=none) {RF:Ending->World->Prop}
  (hRF:∀e w',RF e w'↔∃v ρ',e=.returned v/\Stp (Own [] ρ) (Own [] ρ') ρ ρ' w w'/\zN Keep [] ρ' w'/\G (λb=>Keep b∨Own [] ρ' b) (Own [] ρ') ρ' w' r v):
  ∀(k:Nat) (c:Code) {σ1:St} {ρ1:zj} {a1:Act} {w1:World},Rel ⟨w,ρ,Keep,Own [] ρ,[]⟩ σ1 ρ1 a1 w1->vcDf n P Γ fn cfn cf cc r k c σ1->c.wp P (bodyPostD P fn RF) a1 w1
 | k+1,c,σ1,ρ1,a1,w1,hr1,h=>by
  obtain⟨x,y,rfl,h⟩:=h;refine wp_seq (Code.wp_mono (λe a2 w2 hq=>?_) (kV hT hm x hr1 h))
  cases e with
  | normal=>obtain⟨σ,ρ',h1,h2⟩:=hq;exact zp6 hT hm hcf hcb hcn hk hρ hRF k y h2 h1
  | ret=>
   obtain⟨σ,ρ',h1,hr⟩:=hq;obtain⟨s,hles,h8⟩:=yo hT h1;obtain⟨v,hv,hgv⟩:=h8 hr;have hst:=hr.stp;show Leaves P fn a2.tmps RF a2.defers .returning w2;have hd0:a2.defers=[]:=hr.defers;rw[hd0];refine⟨v,hv,(hRF _ _).2 ⟨v,ρ',rfl,?_,(jd hr.mem.kp λ_ _ h=>hr.mem.glc h),zxv hr.mem hles hgv⟩⟩;exact⟨hst.os,hst.tape,hst.output,hst.size,λb hb hn=>hst.block b hb λh=>hn h,λb hb=>absurd hb zZ,hst.rho⟩
  | exit id=>obtain⟨σ,ρ',h1,_⟩:=hq;exact h1.elim
  | _=>exact hq.elim
 | 0,c,σ1,ρ1,a1,w1,hr1,h=>by
  obtain⟨id,o1,o2,rest,t,rfl,ho,hg,hd,h1⟩:=h;refine wp_seq (wp_region_list ?_);obtain⟨σ',run,svs,s,md,h2,hgd,href,hdst,hrun⟩:=zfN hT hr1 h1
  have hr1':Rel ⟨w,ρ,Keep,Own [] ρ,[]⟩ σ' ρ1 a1 w1:=by
   rcases href with rfl | ⟨t,s0,s1,q2,q3,rfl⟩
   ·exact hr1
   ·exact hr1.refine q2 q3
  have hnt:σ'.nt=σ1.nt:=by rcases href with rfl | ⟨t,s0,s1,q2,q3,rfl⟩ <;> rfl
  have go2:∀{ρ2:zj} {a2:Act} {w2:World} {Q:Exit->Act->World->Prop},(∀a w,rest.wp P (bodyPostD P fn RF) a w->Q .normal a w)->Rel ⟨w,ρ,Keep,Own [] ρ,[]⟩ (σ'.app o1.dst s md) ρ2 a2 w2->
    wpList P #[o1,o2] Q [o2] a2 w2:=by
   intro ρ2 a2 w2 Q hQ hr2;obtain⟨caps,hlt,hcle,hall,h3⟩:=h2;have hgt:=(hr2.regs t _ hlt).2;obtain⟨cvs,hcv,hcg⟩:=hgt.fn_inv;have hw:Region.wanted o2 (yielded (#[o1,o2]:Array Oper) a2.tmps)=true:=hr2.wanted (all:=[o1,o2]) (by simp[qZ,hg]);unfold wpList;rw[hw];simp only[if_true];refine .inl ?_;unfold Oper.wp
   have hex:(execOp a2.eval o2).run P w2=.ok (.defer ⟨.fn (.func cf) cvs.toArray,#[]⟩) w2:=by
    have hev:a2.eval (.tmp t)=.func (.func cf) #[] cvs.toArray:=hcv;simp only[execOp,ho,resolve,hev,Deferred.ofValue,Sem.run_bind,Sem.run_pure,Result.andThen_ok];simp
   rw[hex,Oper.upon_defer,hd];refine hQ _ _ ?_;show rest.wp P _ { a2 with defers:=_::a2.defers } w2;have hd0:a2.defers=[]:=hr2.defers;rw[hd0]
   -- the rest,with the call put off
   let E3:Env:=⟨w2,ρ2,Keep,Own (σ'.app o1.dst s md).M ρ2,[⟨.fn (.func cf) cvs.toArray,#[]⟩]⟩
   have hr3:Rel E3 ⟨(σ'.app o1.dst s md).L,(σ'.app o1.dst s md).M,(σ'.app o1.dst s md).nk,(σ'.app o1.dst s md).nt,(σ'.app o1.dst s md).nk⟩ ρ2 { a2 with defers:=[⟨.fn (.func cf) cvs.toArray,#[]⟩] } w2:=
    ⟨hr2.size,rfl,hr2.regs,hr2.mem,hr2.fresh,.refl,hr2.mem.kp,λk v hv=>by
     rcases Qa k (σ'.app o1.dst s md).nk with h | h
     ·exact h
     ·have hv:ρ2 k=some v:=hv
      rw[hr2.fresh k h]at hv;cases hv⟩
   refine Code.wp_mono (λe a3 w3 hq=>?_) (kV hT hm rest hr3 h3)
   have fin:∀σ3 ρ3,zsX n P Γ fn cfn cc caps r σ3->Rel E3 σ3 ρ3 a3 w3->Leaves P fn a3.tmps RF a3.defers .returning w3:=by
    intro σ3 ρ3 ⟨hbeq,h4⟩ hr3;have hlen:=Xf hbeq;have hd3:a3.defers=[⟨.fn (.func cf) cvs.toArray,#[]⟩]:=hr3.defers;rw[hd3];have hρ3:∀k,σ3.M.length<=k->ρ3 k=none:=λk hk=>hr3.fresh k oM
    have hcg3:Gs (λb=>Keep b∨Own σ3.M ρ3 b) (Own σ3.M ρ3) ρ3 w3 caps cvs:=by
     refine⟨hcg.1,λj s v hs hv=>?_⟩;have hl:zxu s=true:=XM.1 hall s (Xd hs)
     cases s <;> try (simp[zxu]at hl)
     rename_i k off;obtain⟨b,hb1,rfl⟩:=(hcg.2 j _ v hs hv).loc_inv;exact .loc _ _ _ (hr3.stp.rho _ _ hb1)
    have hent:=zaE (nt:=cfn.ntmps) hr3.mem hρ3 hcg3 (Xw hcle);refine leaves_cons (by simp) (f:=cf) (args:=cvs.toArray) ?_ ?_
    ·simp only[invoke,callFunc,Sem.run_bind,Sem.run_pure,Result.andThen_ok,run_program,hcf,hcn,hcb,Option.isNone_some,Kz,if_false];simp
    ·refine(callsD_of_wp (R:=λe w4=>∃v0,e=.returned v0/\Leaves P fn a3.tmps RF [] .returning w4) hcf hcb ?_).mono ?_
     ·refine Code.wp_mono (λe a4 w4 hq=>?_) (kV hT hm cc hent h4)
      have fin2:∀σ4 ρ4,(zbI σ4 Γ cfn.results.toList λ_=>zbI ⟨σ3.L.map yZ,σ4.M,σ4.nk,σ3.nt,0⟩ Γ fn.results.toList λs=>LE (zic (zY σ4.M) n s) r)->
        Rel ⟨w3,ρ3,Keep,Own σ3.M ρ3,[]⟩ σ4 ρ4 a4 w4->a4.defers=[]/\∃v,(results cfn a4.tmps).run P w4=.ok v w4/\∃v0,Ending.returned v=.returned v0/\
         Leaves P fn a3.tmps RF [] .returning w4:=by
       intro σ4 ρ4 h5 hr4;obtain⟨s0,h6,h7⟩:=yo hT h5;obtain⟨v0,hv0,_⟩:=h7 hr4;refine⟨hr4.defers,v0,hv0,v0,rfl,?_⟩;have hst:Stp (Own [] ρ) (Own σ4.M ρ4) ρ ρ4 w w4:=(hr2.stp.trans hr3.stp).trans hr4.stp
       have hfin:Rel ⟨w,ρ,Keep,Own [] ρ,a3.defers⟩ ⟨σ3.L.map yZ,σ4.M,σ4.nk,σ3.nt,0⟩ ρ4 a3 w4:=by
        refine⟨hr3.size,rfl,λt s hl=>?_,hr4.mem,hr4.fresh,hst,hk,λk v hv=>?_⟩
        ·rcases zgw σ3.L t s hl with rfl | ⟨k,o,rfl,h8⟩
         ·refine⟨?_,.d _ _ (.junk _)⟩
          have:∃s,qc σ3.L t=some s:=by
           clear h5 h6 h7 h4 hr3 hr4 hent
           revert hl
           generalize σ3.L=L;intro hl
           induction L with
           | nil=>simp[qc]at hl
           | cons p L ih=>
            obtain⟨d,s0⟩:=p
            by_cases hd:d=t
            ·exact⟨s0,by rw[kJ,if_pos hd]⟩
            ·rw[kJ,if_neg hd];refine ih ?_
             have e:(((d,s0)::L).map yZ)=(d,(yZ (d,s0)).2)::L.map yZ:=by
              simp only[Je];congr 1;unfold yZ;dsimp only;split <;> rfl
             have hl':qc (((d,s0)::L).map yZ) t=some .junk:=hl;rw[e,kJ,if_neg hd]at hl';exact hl'
          obtain⟨s,hs⟩:=this;exact(hr3.regs t s hs).1
         ·obtain⟨h9,h10⟩:=hr3.regs t _ h8;refine⟨h9,?_⟩;obtain⟨b,hb1,hb2⟩:=h10.loc_inv;rw[hb2];exact .loc _ _ _ (hr4.stp.rho _ _ hb1)
        ·have hv:ρ k=some v:=hv;rw[hρ k (Xe _)]at hv;cases hv
       obtain⟨s,hles,h8⟩:=yo hT h6;obtain⟨v,hv,hgv⟩:=h8 hfin;refine⟨v,hv,(hRF _ _).2 ⟨v,ρ4,rfl,?_,(jd hfin.mem.kp λ_ _ h=>hfin.mem.glc h),?_⟩⟩
       ·exact⟨hst.os,hst.tape,hst.output,hst.size,λb hb hn=>hst.block b hb hn,λb hb=>absurd hb zZ,hst.rho⟩
       ·exact zxv hfin.mem hles hgv
      cases e with
      | normal=>obtain⟨σ4,ρ4,h5,hr4⟩:=hq;exact fin2 σ4 ρ4 h5 hr4
      | ret=>obtain⟨σ4,ρ4,h5,hr4⟩:=hq;exact fin2 σ4 ρ4 h5 hr4
      | exit id=>obtain⟨σ4,ρ4,h5,_⟩:=hq;exact h5.elim
      | _=>exact hq.elim
     ·rintro e u' w4 ⟨rfl,v0,rfl,hL⟩
      exact hL
   cases e with
   | normal=>obtain⟨σ3,ρ3,⟨σ',hs,h4⟩,hr3⟩:=hq;obtain⟨ρ',hr'⟩:=hs _ _ _ _ hr3;exact fin σ' ρ' h4 hr'
   | ret=>obtain⟨σ3,ρ3,⟨σ',hs,h4⟩,hr3⟩:=hq;obtain⟨ρ',hr'⟩:=hs _ _ _ _ hr3;exact fin σ' ρ' h4 hr'
   | exit id=>obtain⟨σ3,ρ3,h4,_⟩:=hq;exact h4.elim
   | _=>exact hq.elim
  unfold wpList;rw[hr1'.wanted hgd]
  rcases hrun with⟨rfl,hst⟩ | ⟨rfl,rfl,rfl⟩
  ·simp only[if_true];refine .inl ((hst.does hr1').wp λv w' ha=>?_);obtain⟨ρ',hrel⟩:=hr1'.app (λt e=>hnt ▸ hdst t e) ha;exact go2 (λ_ _ h=>h) hrel
  ·simp only[Kz,if_false];obtain⟨ρ',hrel⟩:=hr1'.app (λt e=>hnt ▸ hdst t e) (uV hr1'.mem);exact go2 (λ_ _ h=>h) hrel
theorem zmc (n k:Nat) {P:Program} {Γ:List (TypeId×TI)} (hT:TOK P Γ) (hm:P.follows .mixedOrders=true) {f cf:FuncId} {fn cfn:Func} {c:Code}
  {args:List SV} {r:SV} {cc:Code} (hf:P.funcs[f]? =some fn) (hb:fn.body=some c) (hn:(fn.name== "runtime.NumGoroutine")=false)
  (hle:Nat.ble args.length fn.ntmps=true) (hcf:P.funcs[cf]? =some cfn) (hcb:cfn.body=some cc) (hcn:(cfn.name== "runtime.NumGoroutine")=false)
  (h:vcDf n P Γ fn cfn cf cc r k c ⟨yb 0 args,[],0,fn.ntmps,0⟩):qF P f args [] r []:=by
 refine⟨⟨fn,hf,hn,by rw[hb];rfl⟩,λKeep ρ w vs hk hmem hρ hgs=>?_⟩;have hRF:∃RF:Ending->World->Prop,∀e w',RF e w'↔∃v ρ',e=.returned v/\Stp (Own [] ρ) (Own [] ρ') ρ ρ' w w'/\zN Keep [] ρ' w'/\G (λb=>Keep b∨Own [] ρ' b) (Own [] ρ') ρ' w' r v:=⟨_,λ_ _=>K4⟩;obtain⟨RF,hRF⟩:=hRF;refine Calls.mono ?_ λe w' h=>(hRF e w').1 h
 refine calls_of_wp_defers hf hb ?_;have hrel:=zaE (nt:=fn.ntmps) hmem hρ hgs (Xw hle);exact zp6 hT hm hcf hcb hcn hk hρ hRF k c hrel h
open Go.Proofs
section
def uk(t:AF):AF:=⟨ofQ (t.d.v / yr t),ofQ (-t.b.v / yr t),ofQ (-t.c.v / yr t),ofQ (t.a.v / yr t),zBR,zBR⟩
def znL(t:AF):AF:={ uk t with e:=ofQ (-(yX (uk t) t.e.v t.f.v)),f:=ofQ (-(yY (uk t) t.e.v t.f.v)) }
def zhz(t:AF):AF×Int:=if ¬t.ok then(qn,5) else if yr t=0 then(qn,9) else if ¬(znL t).ok then(qn,5) else(znL t,0)
theorem zxw(t:AF):(znL t).nrm=znL t:=by
 unfold znL uk AF.nrm;simp only[z6]
theorem zgC(x y:Rat)(h:y≠0):jY (x / y)<=jY x+jY y:=by
 rw[← zoV];have hy:y.num≠0:=λk=>h (Rat.num_eq_zero.1 k)
 have h1:=zbo (n:=x.num*y.den) (JX (zdt x) hy);have h2:=kM x.num y.den;have h4:=kM x.den y.num;have a1:=qa x;have a2:=qa y;have a3:=qk x;have a4:=qk y;omega
theorem zsZ(t:AF){n:Nat}(ht:t.le n)(hn:1<=n):jY (yr t)<=4*n+1:=by
 obtain⟨ha,hb,hc,hd,he,hf⟩:=ht;have l1:=zH t.a;have l2:=zH t.b;have l3:=zH t.c;have l4:=zH t.d;have m1:=yf t.a.v t.d.v;have m2:=yf t.b.v t.c.v;have m3:=zoU (t.a.v*t.d.v) (t.b.v*t.c.v);show jY (t.a.v*t.d.v - t.b.v*t.c.v)<=_;omega
theorem zs0{t:AF}{n:Nat}(ht:t.le n)(hn:1<=n)(h0:yr t≠0):(uk t).le (5*n+1):=by
 have hd':=zsZ t ht hn;obtain⟨ha,hb,hc,hd,he,hf⟩:=ht;have l1:=zH t.a;have l2:=zH t.b;have l3:=zH t.c;have l4:=zH t.d;have n2:=v9 t.b.v;have n3:=v9 t.c.v;have q1:=zgC t.d.v (yr t) h0;have q2:=zgC (-t.b.v) (yr t) h0;have q3:=zgC (-t.c.v) (yr t) h0;have q4:=zgC t.a.v (yr t) h0;refine⟨?_,?_,?_,?_,?_,?_⟩
 ·show(ofQ _).len<=_;rw[zB];omega
 ·show(ofQ _).len<=_;rw[zB];omega
 ·show(ofQ _).len<=_;rw[zB];omega
 ·show(ofQ _).len<=_;rw[zB];omega
 ·show 0<=_;omega
 ·show 0<=_;omega
theorem zs1{t:AF}{n:Nat}(ht:t.le n)(hn:1<=n)(h0:yr t≠0):(znL t).le (100*n+100):=by
 have hi:=zs0 ht hn h0;obtain⟨ha,hb,hc,hd,he,hf⟩:=ht;obtain⟨ia,ib,ic,id,ie,if'⟩:=hi;have m1:=qh (n:=5*n+1) (uk t).a t.e (uk t).c t.f (uk t).e ia oM ic oM ie;have m2:=qh (n:=5*n+1) (uk t).b t.e (uk t).d t.f (uk t).f ib oM id oM if'
 refine⟨?_,?_,?_,?_,?_,?_⟩
 ·show(uk t).a.len<=_;omega
 ·show(uk t).b.len<=_;omega
 ·show(uk t).c.len<=_;omega
 ·show(uk t).d.len<=_;omega
 ·show(ofQ (-(yX (uk t) t.e.v t.f.v))).len<=_;rw[zB,v9];have:jY (yX (uk t) t.e.v t.f.v)<=5*(5*n+1)+7:=m1.2;omega
 ·show(ofQ (-(yY (uk t) t.e.v t.f.v))).len<=_;rw[zB,v9];have:jY (yY (uk t) t.e.v t.f.v)<=5*(5*n+1)+7:=m2.2;omega
theorem a_by(x d:BR)(hx:x.len<=1000000)(hd:d.len<=1000000)(h0:d.v≠0):CG0 88 [.agg (brE x),.ptr (brE d)] [] (.agg (brE (ofQ (x.v / d.v)))) []:=by
 refine zc Tryz.func88 ?_;exact zb.t (q_quo x d oM oM h0)<|.refl
theorem zxx(t:AF)(ht:t.le 100):CG0 43 [.agg (afE t)] [] (.tup [.agg (afE (zhz t).1),i64 (zhz t).2]) []:=by
 have bad:∀n,zhz t=(qn,n)->LE (.tup [.agg yU,i64 n]) (.tup [.agg (afE (zhz t).1),i64 (zhz t).2]):=λn h=>by
  rw[h];exact zI zaI .refl
 have hd':=zsZ t ht dC;refine zc Tryz.func43 ?_;refine zb.t (zcu t (ht.up dC))<|⟨λh=>bad 5 (if_pos h),λh1=>?_⟩;refine zb.t (zhQ t (ht.up dC))<|Dr.k<|zb.t (yq 0 dC)<|zb.t (zfZ (ofQ (yr t)) (ofQ ((0:Int):Rat)) (by rw[zB];omega) (by decide +kernel)) ?_;rw[z6,z6];refine⟨λh=>bad 9 ((if_neg h1).trans (if_pos (qU.1 h))),λh=>?_⟩;have h0:yr t≠0:=λk=>h (qU.2 k)
 have hi:=zs0 ht dC h0;have hA:=zs1 ht dC h0;have ht':=ht;obtain⟨ha,hb,hc,hd,he,hf⟩:=ht;have hdv:(ofQ (yr t)).v≠0:=by rw[z6];exact h0
 have lb:=zH t.b;have lc:=zH t.c;have nb:=v9 t.b.v;have nc:=v9 t.c.v;refine Dr.k<|zb.t (a_by t.d (ofQ (yr t)) oM (by rw[zB];omega) hdv)<|zb.t (zsj t.b oM)<|zb.t (a_by (ofQ (-t.b.v)) (ofQ (yr t)) (by rw[zB];omega) (by rw[zB];omega) hdv)<|zb.t (zsj t.c oM)<|zb.t (a_by (ofQ (-t.c.v)) (ofQ (yr t)) (by rw[zB];omega) (by rw[zB];omega) hdv) ?_;refine zb.t (a_by t.a (ofQ (yr t)) oM (by rw[zB];omega) hdv) ?_;rw[z6,z6,z6]
 have h24:LEs (brE (uk t).a++(brE (uk t).b++(brE (uk t).c++(brE (uk t).d++(z4++z4))))) (afE (uk t)):=
  LEs.append .refl (LEs.append .refl (LEs.append .refl (LEs.append .refl (LEs.append jP jP))))
 have mX:=qh (n:=501) (uk t).a t.e (uk t).c t.f (uk t).e hi.1 oM hi.2.2.1 oM hi.2.2.2.2.1;have mY:=qh (n:=501) (uk t).b t.e (uk t).d t.f (uk t).f hi.2.1 oM hi.2.2.2.1 oM hi.2.2.2.2.2;have mX2:jY (yX (uk t) t.e.v t.f.v)<=5*501+7:=mX.2;have mY2:jY (yY (uk t) t.e.v t.f.v)<=5*501+7:=mY.2;refine zb.t ((zis (uk t) t.e t.f (hi.up dC) oM oM).args (.cons (qA h24) (.cons .refl (.cons .refl .nil))))<|Dr.k<|zb.t (zsj (ofQ (yX (uk t) t.e.v t.f.v)) (by rw[zB];omega))<|zb.t (zsj (ofQ (yY (uk t) t.e.v t.f.v)) (by rw[zB];omega)) ?_;rw[z6,z6]
 refine zb.t (zcu (znL t) (hA.up dC))<|⟨λh=>bad 5 ((if_neg h1).trans ((if_neg h0).trans (if_pos h))),λh=>?_⟩;refine zb.t (zhR (znL t) (hA.up dC)) ?_;rw[zxw,show zhz t=(znL t,0) from(if_neg h1).trans ((if_neg h0).trans (if_neg h))];exact zI .refl .refl
structure Pix where
 r:Int
 g:Int
 b:Int
 a:Int
 deriving DecidableEq
def zgD(p:Pix):List SV:=[u8 p.r,u8 p.g,u8 p.b,u8 p.a]
structure Img where
 w:Int
 h:Int
 px:List Pix
 deriving DecidableEq
def zkp(m:Img):List SV:=[i64 m.w,i64 m.h,.sl zgD m.px]
def zfs(p:Pix):Prop:=p.r<=p.a/\p.g<=p.a/\p.b<=p.a
instance (p:Pix):Decidable (zfs p):=inferInstanceAs (Decidable (_/\_))
def zeS(m:Img):Prop:=(1<=m.w/\m.w<=4096)/\(1<=m.h/\m.h<=4096)/\m.w*m.h<=65536/\(m.px.length:Int)=m.w*m.h/\∀p∈m.px,zfs p
instance (m:Img):Decidable (zeS m):=inferInstanceAs (Decidable (_/\_))
theorem zgE(x r g b a:Int):CG0 403 [u8 x,.ptr [u8 r,u8 g,u8 b,u8 a]] [] (u8 (min x a)) []:=by
 refine zc Tryz.func403 ?_;exact zi rfl
theorem zBH(p:Pix)(r g b a:Int):CG0 402 [.agg (zgD p),.fn 403 [.ptr [u8 r,u8 g,u8 b,u8 a]]] [] (.agg [u8 (min p.r a),u8 (min p.g a),u8 (min p.b a),u8 (min p.a a)]) []:=by
 refine zc Tryz.func402 ?_;exact Dr.k<|zb.t (zgE _ r g b a)<|zb.t (zgE _ r g b a)<|zb.t (zgE _ r g b a)<|zb.t (zgE _ r g b a)<|.refl
theorem zxy(p:Pix):CG0 382 [.agg (zgD p)] [] (.agg [u8 (min p.r p.a),u8 (min p.g p.a),u8 (min p.b p.a),u8 (min p.a p.a)]) []:=by
 refine zc Tryz.func382 ?_;exact zb.t (zBH p p.r p.g p.b p.a)<|.refl
theorem zxz(p:Pix):CG0 327 [.agg (zgD p)] [] (pr (zfs p)) []:=by
 refine zc Tryz.func327 ?_;refine Dr.k<|zb.t (zxy p)<|zF (p:=min p.r p.a=p.r/\min p.g p.a=p.g/\min p.b p.a=p.b/\min p.a p.a=p.a/\True) ?_;constructor
 ·rintro⟨h1,h2,h3,_⟩
  exact⟨oM,oM,oM⟩
 ·rintro⟨h1,h2,h3⟩
  exact⟨oM,oM,oM,oM,trivial⟩
theorem zuD(p:Pix):CG0 326 [.agg (zgD p)] [] (pr (¬zfs p)) []:=by
 refine zc Tryz.func326 ?_;exact zb.t (zxz p)<|zF K4
def zft(xs:List Pix):Int:=match xs.findIdx? (λp=>decide (¬zfs p)) with
 | some i=>i
 | none=> -1
theorem zuE{xs:List Pix}{i:Nat}{p:Pix}(h:∀(j:Nat) q,j < i->xs[j]? =some q->zfs q)(hi:xs[i]? =some p)(hp:¬zfs p):zft xs=i:=by
 have:xs.findIdx? (λp=>decide (¬zfs p))=some i:=by
  rw[KE];obtain⟨hl,he⟩:=Xc.1 hi;refine⟨hl,by simp[he,hp],λj hj=>?_⟩;have:=h j xs[j] hj (Xb _);simp[this]
 simp only[zft,this]
variable{xs:List Pix}
theorem zh3(h:∀p∈xs,zfs p):zft xs= -1:=by
 have:xs.findIdx? (λp=>decide (¬zfs p))=none:=by
  rw[Kt];intro p hp;simp[h p hp]
 simp only[zft,this]
theorem zk2:0<=zft xs↔¬∀p∈xs,zfs p:=by
 constructor
 ·intro h hall;rw[zh3 hall]at h;omega
 ·intro h;unfold zft
  split
  ·omega
  ·rename_i hn;rw[Kt]at hn;exact absurd (λp hp=>by simpa using hn p hp) h
theorem zzo(xs:List Pix)(hl:xs.length<=9223372036854775807):CG0 381 [.sl zgD xs,.fn 326 []] [] (i64 (zft xs)) []:=by
 refine zc Tryz.func381 ?_;intro hl0;refine⟨Int,λi=>⟨[(8,i64 i),(7,i64 xs.length),(0,.sl zgD xs),(1,.fn 326 [])],[],0,19,0⟩,λi=>0<=i/\i<=xs.length/\∀(j:Nat) q,(j:Int) < i->xs[j]? =some q->zfs q,λi=>((xs.length:Int) - i).toNat,0,?_,?_,?_⟩
 ·exact⟨oM,oM,λj q hj=>by omega⟩
 ·exact zE []
 rintro i ⟨h1,h2,h3⟩
 refine⟨λh4=>?_,λh4=>?_⟩
 ·refine Ob.o ?_;intro x hx;refine zb.t (zuD x)<|⟨λh5=>?_,λh5=>?_⟩
  ·refine zi ?_;rw[zuE (i:=i.toNat) (λj q hj=>h3 j q oM) hx h5];omega
  ·refine Ar.o<|⟨i+1,⟨oM,oM,λj q hj hq=>?_⟩,zE [],by dsimp only;omega⟩
   by_cases e:j=i.toNat
   ·subst e;rw[hx]at hq;cases hq;exact Xa.1 h5
   ·exact h3 j q oM hq
 ·refine zi (zh3 λp hp=>?_).symm;obtain⟨j,hj,he⟩:=Kg hp;exact h3 j p oM (by rw[← he];exact Xb hj)
theorem zrx(xs:List Pix)(hl:xs.length<=9223372036854775807):CG0 325 [.sl zgD xs,.fn 326 []] [] (pr (¬∀p∈xs,zfs p)) []:=by
 refine zc Tryz.func325 ?_;exact zb.t (zzo xs hl)<|zF zk2
theorem zAj(n:Int):CG0 324 [i64 n] [] (pr (1<=n/\n<=4096)) []:=by
 refine zc Tryz.func324 ?_;refine⟨λh=>?_,λh=>?_⟩
 ·exact zF oM
 ·exact zd oM
theorem zxA{a b A B:Int}(h1:0<=a)(h2:a<=A)(h3:0<=b)(h4:b<=B):0<=a*b/\a*b<=A*B:=
 ⟨XG h1 h3,Ye h2 h4 h3 oM⟩
theorem zmd(m:Img)(hl:m.px.length<=9223372036854775807):CG0 266 [.agg (zkp m)] [] (pr (zeS m)) []:=by
 refine zc Tryz.func266 ?_;refine zb.t (zAj m.w)<|⟨λh1=>?_,λh1=>?_⟩
 ·exact zd (λh=>h1 h.1)
 have h1:=Xa.1 h1;refine zb.t (zAj m.h)<|⟨λh2=>?_,λh2=>?_⟩
 ·exact zd (λh=>h2 h.2.1)
 have h2:=Xa.1 h2;have hm:=zxA (show 0<=m.w by omega) h1.2 (show 0<=m.h by omega) h2.2;refine Ar.o<|Br.mk (λh3=>?_) (λh3=>?_)
 ·exact zd (λh=>by have:=h.2.2.1;omega)
 intro hl0;refine Ar.o<|Br.mk (λh4=>?_) (λh4=>?_)
 ·exact zd (λh=>h4 h.2.2.2.1)
 exact zb.t (zrx m.px hl)<|zF<|⟨λh=>⟨h1,h2,oM,Xa.1 h4,Xa.1 h⟩,λh h'=>h' h.2.2.2.2⟩
theorem zBI(w h:Int):CG0 348 [i64 w,i64 h] [] (pr ((1<=w/\w<=4096)/\(1<=h/\h<=4096)/\w*h<=65536)) []:=by
 refine zc Tryz.func348 ?_;refine⟨λh1=>?_,λh1=>zd oM⟩;refine⟨λh2=>?_,λh2=>zd oM⟩;refine⟨λh3=>?_,λh3=>zd oM⟩;refine⟨λh4=>?_,λh4=>zd oM⟩;have hm:=zxA (show 0<=w by omega) h2 (show 0<=h by omega) h4;exact Ar.o<|zF ⟨λh=>⟨⟨h1,h2⟩,⟨h3,h4⟩,h⟩,λh=>h.2.2⟩
theorem zuF(p:Pix):CG0 349 [.agg (zgD p)] [] (pr (zfs p)) []:=by
 refine zc Tryz.func349 ?_;refine⟨λh1=>?_,λh1=>zd (λh=>h1 h.1)⟩;refine⟨λh2=>?_,λh2=>zd (λh=>h2 h.2.1)⟩;exact zF ⟨λh=>⟨h1,h2,h⟩,λh=>h.2.2⟩
theorem zkq(m:Img):CG0 298 [.agg (zkp m)] [] (pr (zeS m)) []:=by
 refine zc Tryz.func298 ?_;refine zb.t (zBI m.w m.h)<|⟨λh1=>zd (λh=>h1 ⟨h.1,h.2.1,h.2.2.1⟩),λh1=>?_⟩;have h1:=Xa.1 h1;have hm:=zxA (show 0<=m.w by omega) h1.1.2 (show 0<=m.h by omega) h1.2.1.2;intro hl0;refine Ar.o<|Br.mk (λh4=>zd (λh=>h4 h.2.2.2.1)) (λh4=>?_);have h4:=Xa.1 h4
 refine⟨Int,λi=>⟨[(3,i64 i),(1,.loc 0 0)],[(0,.box 53 (zkp m))],1,35,0⟩,λi=>0<=i/\i<=m.px.length/\∀(j:Nat) q,(j:Int) < i->m.px[j]? =some q->zfs q,λi=>((m.px.length:Int) - i).toNat,0,?_,?_,?_⟩
 ·exact⟨oM,oM,λj q hj=>by omega⟩
 ·exact zf [0]
 rintro i ⟨g1,g2,g3⟩
 intro hl1;refine⟨λg4=>?_,λg4=>?_⟩
 ·refine Ob.o ?_;intro x hx;refine zb.t (zuF x)<|⟨λg5=>?_,λg5=>?_⟩
  ·exact zd λh=>g5 (h.2.2.2.2 x (Xd hx))
  ·refine Ar.o<|⟨i+1,⟨oM,oM,λj q hj hq=>?_⟩,zf [0],by dsimp only;omega⟩
   by_cases e:j=i.toNat
   ·subst e;rw[hx]at hq;cases hq;exact Xa.1 g5
   ·exact g3 j q oM hq
 ·refine zT ⟨h1.1,h1.2.1,h1.2.2,h4,λp hp=>?_⟩;obtain⟨j,hj,he⟩:=Kg hp;exact g3 j p oM (by rw[← he];exact Xb hj)
theorem zkr{p q:Pix}:(p.r=q.r/\p.g=q.g/\p.b=q.b/\p.a=q.a/\True)↔p=q:=by
 cases p;cases q;simp
variable{i:Int}
theorem zzp{ys:List Pix}(hl:(xs.length:Int)=ys.length)(hi:¬i < xs.length)(h:∀j:Nat,(j:Int) < i->xs[j]? =ys[j]?):xs=ys:=by
 refine Kc λj=>?_
 by_cases hj:(j:Int) < i
 ·exact h j hj
 ·rw[XB oM,XB oM]
theorem zzq(xs ys:List Pix):CG0 377 [.sl zgD xs,.sl zgD ys] [] (pr (xs=ys)) []:=by
 refine zc Tryz.func377 ?_;intro hl1 hl2;refine⟨λh1=>zd λe=>h1 (by rw[e]),λh1=>?_⟩;have h1:=Xa.1 h1;intro hl3;refine⟨Int,λi=>⟨[(13,i64 i),(12,i64 xs.length),(0,.sl zgD xs),(1,.sl zgD ys)],[],0,26,0⟩,λi=>0<=i/\i<=xs.length/\∀j:Nat,(j:Int) < i->xs[j]? =ys[j]?,λi=>((xs.length:Int) - i).toNat,0,?_,?_,?_⟩
 ·exact⟨oM,oM,λj hj=>by omega⟩
 ·exact zE []
 rintro i ⟨h4,h5,h6⟩
 refine⟨λh7=>?_,λh7=>?_⟩
 ·refine Dr.k<|Ob.o ?_;intro x hx;refine Ob.o ?_;intro y hy;refine⟨λh8=>?_,λh8=>?_⟩
  ·refine zd λe=>h8 (zkr.2 ?_)
   subst e;rw[hx]at hy;exact Xj hy
  ·refine Ar.o<|⟨i+1,⟨oM,oM,λj hj=>?_⟩,zE [],by dsimp only;omega⟩
   by_cases e:j=i.toNat
   ·subst e;rw[hx,hy,zkr.1 (Xa.1 h8)]
   ·exact h6 j oM
 ·exact zT (zzp h1 h7 h6)
theorem zme(m n:Img):CG0 322 [.agg (zkp m),.agg (zkp n)] [] (pr (m=n)) []:=by
 refine zc Tryz.func322 ?_;refine⟨λh1=>?_,λh1=>zd λe=>h1 (by rw[e])⟩;refine⟨λh2=>?_,λh2=>zd λe=>h2 (by rw[e])⟩;refine zb.t (zzq m.px n.px)<|zF ⟨λh=>?_,λh=>by rw[h]⟩
 cases m;cases n;simp_all
def zdP:Pix:=⟨0,0,0,0⟩
structure zks where
 o:Int
 c:Pix
 deriving DecidableEq
def zgF(s:zks):List SV:=[i64 s.o,u8 s.c.r,u8 s.c.g,u8 s.c.b,u8 s.c.a]
theorem zs2{p q:zks}:(p.o=q.o/\p.c.r=q.c.r/\p.c.g=q.c.g/\p.c.b=q.c.b/\p.c.a=q.c.a/\True)↔p=q:=by
 rcases p with⟨a,b,c,d,e⟩;rcases q with⟨a',b',c',d',e'⟩;simp
def zp7:Int->List zks->Prop
 | _,[]=>True
 | lo,s::l=>(lo<=s.o/\s.o<=65536)/\zp7 s.o l
instance upDec:∀lo l,Decidable (zp7 lo l)
 | _,[]=>isTrue trivial
 | _,s::l=>haveI:=upDec s.o l;inferInstanceAs (Decidable (_/\_))
def zex(l:List zks):Prop:=(1<=(l.length:Int)/\(l.length:Int)<=16)/\zp7 0 l
instance (l:List zks):Decidable (zex l):=inferInstanceAs (Decidable (_/\_))
theorem zxB(l:List zks):CG0 413 [.sl zgF l] [] (pr (zex l)) []:=by
 refine zc Tryz.func413 ?_;intro hl1;refine⟨λh=>zd (λk=>by have:=k.1.1;omega),λh2=>?_⟩;intro hl2;refine⟨λh=>zd (λk=>by have:=k.1.2;omega),λh3=>?_⟩;intro hl4;refine⟨Int×Int,λ⟨i,at_⟩=>⟨[(3,i64 at_),(14,.sl zgF l),(15,i64 l.length),(16,i64 i)],[],0,32,0⟩,λ(i,at_)=>0<=i/\i<=l.length/\(zp7 0 l↔zp7 at_ (l.drop i.toNat)),λ(i,_)=>((l.length:Int) - i).toNat,(0,0),?_,?_,?_⟩
 ·exact⟨oM,oM,K4⟩
 ·exact zE []
 rintro⟨i,at_⟩ ⟨g1,g2,g3⟩
 refine⟨λh5=>?_,λh5=>?_⟩
 ·refine Ob.o ?_;intro x hx
  have hd:l.drop i.toNat=x::l.drop (i.toNat+1):=by
   obtain⟨hi,he⟩:=Xc.1 hx;rw[KM hi,he]
  rw[hd]at g3;refine⟨λh6=>zd (λk=>by have:=(g3.1 k.2).1;omega),λh6=>?_⟩;refine⟨λh7=>zd (λk=>by have:=(g3.1 k.2).1;omega),λh7=>?_⟩;refine Ar.o<|⟨(i+1,x.o),⟨oM,oM,?_⟩,zE [],by dsimp only;omega⟩;rw[g3,show(i+1).toNat=i.toNat+1 by omega];exact⟨λk=>k.2,λk=>⟨oM,k⟩⟩
 ·refine zT ⟨oM,g3.2 ?_⟩;rw[Kx oM];trivial
theorem zmf(l:List zks):CG0 417 [.sl zgF l] [] (pr (zex l)) []:=by
 refine zc Tryz.func417 ?_;refine⟨Int×Int,λ⟨i,_⟩=>⟨[(0,.sl zgF l),(3,i64 i)],[],0,50,0⟩,λ(i,at_)=>0<=i/\i<=l.length/\(i=0->at_=0)/\(0 < i->0<=at_/\∃y,l[(i - 1).toNat]? =some y/\y.o=at_)/\(zp7 0 l↔zp7 at_ (l.drop i.toNat)),λ(i,_)=>((l.length:Int) - i).toNat,(0,0),?_,?_,?_⟩
 ·exact⟨oM,oM,λ_=>rfl,λh=>by omega,K4⟩
 ·exact zE []
 rintro⟨i,at_⟩ ⟨g1,g2,g4,g5,g3⟩
 intro hl1;refine⟨λh5=>?_,λh5=>?_⟩
 ·refine Dr.k<|Ob.o ?_;intro x hx
  have hd:l.drop i.toNat=x::l.drop (i.toNat+1):=by
   obtain⟨hi,he⟩:=Xc.1 hx;rw[KM hi,he]
  rw[hd]at g3
  have hat:0<=at_:=by
   by_cases h0:0 < i
   ·exact(g5 h0).1
   ·have:=g4 oM;omega
  refine⟨λh6=>zd (λk=>by have:=(g3.1 k.2).1;omega),λh6=>?_⟩;refine Ob.o ?_;intro x' hx';rw[hx]at hx';cases hx'
  refine⟨λh7=>zd (λk=>by have:=(g3.1 k.2).1;omega),λh7=>?_⟩;refine⟨λh8=>?_,λh8=>?_⟩
  ·obtain⟨_,y,hy,hyo⟩:=g5 h8;refine Ob.o ?_;intro x' hx';rw[hx]at hx';cases hx'
   refine Ar.o<|Ob.o ?_;intro y' hy';rw[hy]at hy';cases hy'
   refine⟨λh9=>zd (λk=>by have:=(g3.1 k.2).1;omega),λh9=>?_⟩;refine Ar.o<|⟨(i+1,x.o),⟨oM,oM,λh=>by omega,λ_=>⟨oM,x,by rw[show(i+1 - 1).toNat=i.toNat by omega];exact hx,rfl⟩,?_⟩,zE [],by dsimp only;omega⟩;rw[g3,show(i+1).toNat=i.toNat+1 by omega];exact⟨λk=>k.2,λk=>⟨oM,k⟩⟩
  ·refine Ar.o ?_;have:=g4 oM;refine⟨(i+1,x.o),⟨oM,oM,λh=>by omega,λ_=>⟨oM,x,by rw[show(i+1 - 1).toNat=i.toNat by omega];exact hx,rfl⟩,?_⟩,zE [],by dsimp only;omega⟩;rw[g3,show(i+1).toNat=i.toNat+1 by omega];exact⟨λk=>k.2,λk=>⟨oM,k⟩⟩
 ·have hall:zp7 0 l:=g3.2 (by rw[Kx oM];trivial);intro hl2;refine⟨λh6=>?_,λh6=>?_⟩
  ·intro hl3;exact zF ⟨λk=>⟨⟨oM,k⟩,hall⟩,λk=>k.1.2⟩
  ·exact zd λk=>h6 k.1.1
theorem zry{xs ys:List zks}(hl:(xs.length:Int)=ys.length)(hi:¬i < xs.length)(h:∀j:Nat,(j:Int) < i->xs[j]? =ys[j]?):xs=ys:=by
 refine Kc λj=>?_
 by_cases hj:(j:Int) < i
 ·exact h j hj
 ·rw[XB oM,XB oM]
theorem zzr(xs ys:List zks):CG0 412 [.sl zgF xs,.sl zgF ys] [] (pr (xs=ys)) []:=by
 refine zc Tryz.func412 ?_;intro hl1 hl2;refine⟨λh1=>zd λe=>h1 (by rw[e]),λh1=>?_⟩;have h1:=Xa.1 h1;intro hl3;refine⟨Int,λi=>⟨[(13,i64 i),(12,i64 xs.length),(0,.sl zgF xs),(1,.sl zgF ys)],[],0,26,0⟩,λi=>0<=i/\i<=xs.length/\∀j:Nat,(j:Int) < i->xs[j]? =ys[j]?,λi=>((xs.length:Int) - i).toNat,0,?_,?_,?_⟩
 ·exact⟨oM,oM,λj hj=>by omega⟩
 ·exact zE []
 rintro i ⟨h4,h5,h6⟩
 refine⟨λh7=>?_,λh7=>?_⟩
 ·refine Dr.k<|Ob.o ?_;intro x hx;refine Ob.o ?_;intro y hy;refine⟨λh8=>?_,λh8=>?_⟩
  ·refine zd λe=>h8 (zs2.2 ?_)
   subst e;rw[hx]at hy;exact Xj hy
  ·refine Ar.o<|⟨i+1,⟨oM,oM,λj hj=>?_⟩,zE [],by dsimp only;omega⟩
   by_cases e:j=i.toNat
   ·subst e;rw[hx,hy,zs2.1 (Xa.1 h8)]
   ·exact h6 j oM
 ·exact zT (zry h1 h7 h6)
def zp8(m:Int):Prop:=1<=m/\m<=3
instance (m:Int):Decidable (zp8 m):=inferInstanceAs (Decidable (_/\_))
theorem zxC{n:Int}(h:R64 n):jY (n:Rat)<=2:=by
 have h1:=zdu n;have h2:=qO h;omega
structure Pnt where
 k:Int
 c:Pix
 p0:Pt
 p1:Pt
 r:Int
 st:List zks
 sp:Int
 im:Img
 sm:Int
 t:AF
def u5(p:Pnt):List SV:=
 i64 p.k::u8 p.c.r::u8 p.c.g::u8 p.c.b::u8 p.c.a::i64 p.p0.x::i64 p.p0.y::i64 p.p1.x::i64 p.p1.y::i64 p.r::.sl zgF p.st::i64 p.sp::i64 p.im.w::i64 p.im.h::.sl zgD p.im.px::i64 p.sm::afE p.t
def Pnt.same(p q:Pnt):Prop:=p.k=q.k/\p.c=q.c/\p.p0=q.p0/\p.p1=q.p1/\p.r=q.r/\p.st=q.st/\p.sp=q.sp/\p.im=q.im/\p.sm=q.sm/\p.t.same q.t
instance (p q:Pnt):Decidable (p.same q):=inferInstanceAs (Decidable (_/\_))
theorem zrz(p q:Pnt)(hp:p.t.le 10000000)(hq:q.t.le 10000000):CG0 397 [.agg (u5 p),.agg (u5 q)] [] (pr (p.same q)) []:=by
 refine zc Tryz.func397 ?_;refine⟨λh1=>?_,λh1=>zd (λe=>h1 e.1)⟩;refine⟨λh2=>?_,λh2=>zd (λe=>h2 (zkr.2 e.2.1))⟩;refine⟨λh3=>?_,λh3=>zd (λe=>h3 (k8.2 e.2.2.1))⟩;refine⟨λh4=>?_,λh4=>zd (λe=>h4 (k8.2 e.2.2.2.1))⟩;refine⟨λh5=>?_,λh5=>zd (λe=>h5 e.2.2.2.2.1)⟩;refine⟨λh6=>?_,λh6=>zd (λe=>h6 e.2.2.2.2.2.2.1)⟩;refine⟨λh7=>?_,λh7=>zd (λe=>h7 e.2.2.2.2.2.2.2.2.1)⟩;refine zb.t (zzr p.st q.st) ?_
 refine⟨λh8=>?_,λh8=>zd (λe=>h8 e.2.2.2.2.2.1)⟩;refine zb.t (zme p.im q.im)<|⟨λh9=>?_,λh9=>zd (λe=>h9 e.2.2.2.2.2.2.2.1)⟩;exact zb.t (zsk p.t q.t hp hq)<|zF ⟨λh=>⟨h1,zkr.1 h2,k8.1 h3,k8.1 h4,h5,h8,h6,h9,h7,h⟩,λe=>e.2.2.2.2.2.2.2.2.2⟩
theorem zkt:LEs yU (afE qn):=by
 have h0:LEs z4 (brE zBR):=jP;have h:LEs (z4++(z4++(z4++(z4++(z4++z4))))) (afE qn):=LEs.append h0 (LEs.append h0 (LEs.append h0 (LEs.append h0 (LEs.append h0 h0))));exact h
def zba(k:Int):Pnt:=⟨k,zdP,zp,zp,0,[],0,⟨0,0,[]⟩,0,qn⟩
def nil1:SV:=.val (.slice none 0 0)
theorem zxD(k:Int):LE (.agg (i64 k::u8 0::u8 0::u8 0::u8 0::i64 0::i64 0::i64 0::i64 0::i64 0::nil1::i64 0::i64 0::i64 0::nil1::i64 0::yU)) (.agg (u5 (zba k))):=by
 have h:=zkt;exact qA (.cons .refl (.cons .refl (.cons .refl (.cons .refl (.cons .refl (.cons .refl (.cons .refl (.cons .refl (.cons .refl (.cons .refl (.cons zD (.cons .refl (.cons .refl (.cons .refl (.cons zD (.cons .refl h))))))))))))))))
def vg(p:Pnt):Pnt:=
 if p.k=1 then { p with c:=zdP,t:=qn } else if p.k=2 then { p with p0:=zp,p1:=zp,st:=[],sp:=0,t:=qn }
 else if p.k=3 then { p with p0:=zp,r:=0,st:=[],sp:=0,t:=qn } else if p.k=4 then { p with im:=⟨0,0,[]⟩,sp:=0,sm:=0,t:=qn } else { p with t:=qn }
theorem zuG(p:Pnt):CG0 398 [.agg (u5 p)] [] (.agg (u5 (vg p))) []:=by
 have fin:∀{σ:SV} {q:Pnt},vg p=q->LE σ (.agg (u5 q))->LE σ (.agg (u5 (vg p))):=λe h=>e ▸ h
 refine zc Tryz.func398 ?_;refine⟨λh1=>?_,λh1=>?_⟩
 ·exact fin (q:={ p with c:=zdP,t:=qn }) (by rw[vg,if_pos h1])<|qA (.cons .refl (.cons .refl (.cons .refl (.cons .refl (.cons .refl (.cons .refl (.cons .refl (.cons .refl (.cons .refl (.cons .refl (.cons .refl (.cons .refl (.cons .refl (.cons .refl (.cons .refl (.cons .refl zkt))))))))))))))))
 refine⟨λh2=>?_,λh2=>?_⟩
 ·exact fin (q:={ p with p0:=zp,p1:=zp,st:=[],sp:=0,t:=qn }) (by rw[vg,if_neg h1,if_pos h2])<|qA (.cons .refl (.cons .refl (.cons .refl (.cons .refl (.cons .refl (.cons .refl (.cons .refl (.cons .refl (.cons .refl (.cons .refl (.cons zD (.cons .refl (.cons .refl (.cons .refl (.cons .refl (.cons .refl zkt))))))))))))))))
 refine⟨λh3=>?_,λh3=>?_⟩
 ·exact fin (q:={ p with p0:=zp,r:=0,st:=[],sp:=0,t:=qn }) (by rw[vg,if_neg h1,if_neg h2,if_pos h3])<|qA (.cons .refl (.cons .refl (.cons .refl (.cons .refl (.cons .refl (.cons .refl (.cons .refl (.cons .refl (.cons .refl (.cons .refl (.cons zD (.cons .refl (.cons .refl (.cons .refl (.cons .refl (.cons .refl zkt))))))))))))))))
 refine⟨λh4=>?_,λh4=>?_⟩
 ·exact fin (q:={ p with im:=⟨0,0,[]⟩,sp:=0,sm:=0,t:=qn }) (by rw[vg,if_neg h1,if_neg h2,if_neg h3,if_pos h4])<|qA (.cons .refl (.cons .refl (.cons .refl (.cons .refl (.cons .refl (.cons .refl (.cons .refl (.cons .refl (.cons .refl (.cons .refl (.cons .refl (.cons .refl (.cons .refl (.cons .refl (.cons zD (.cons .refl zkt))))))))))))))))
 ·exact fin (q:={ p with t:=qn }) (by rw[vg,if_neg h1,if_neg h2,if_neg h3,if_neg h4])<|qA (.cons .refl (.cons .refl (.cons .refl (.cons .refl (.cons .refl (.cons .refl (.cons .refl (.cons .refl (.cons .refl (.cons .refl (.cons .refl (.cons .refl (.cons .refl (.cons .refl (.cons .refl (.cons .refl zkt))))))))))))))))
theorem zeT(n:Int):CG0 401 [i64 n] [] (pr (zp8 n)) []:=by
 refine zc Tryz.func401 ?_;refine⟨λh1=>?_,λh1=>zd (λh=>h1 h.1)⟩;exact zF ⟨λh=>⟨h1,h⟩,λh=>h.2⟩
theorem zbb(n:Int):CG0 418 [i64 n] [] (pr (zp8 n)) []:=by
 refine zc Tryz.func418 ?_;refine⟨λh1=>?_,λh1=>zd (λh=>h1 h.1)⟩;exact zF ⟨λh=>⟨h1,h⟩,λh=>h.2⟩
theorem zgG(p:Pnt):CG0 400 [.agg (u5 p)] [] (pr (zex p.st/\zp8 p.sp)) []:=by
 refine zc Tryz.func400 ?_;refine zb.t (zxB p.st)<|⟨λh1=>?_,λh1=>zd (λh=>h1 h.1)⟩;exact zb.t (zeT p.sp)<|zF ⟨λh=>⟨h1,h⟩,λh=>h.2⟩
def vu(p:Pnt):Prop:=p.im.w=0/\p.im.h=0/\p.im.px=[]/\p.sm=0
instance (p:Pnt):Decidable (vu p):=inferInstanceAs (Decidable (_/\_))
def zdQ(p:Pnt):Prop:=p.p0=zp/\p.p1=zp/\p.r=0/\p.st=[]
instance (p:Pnt):Decidable (zdQ p):=inferInstanceAs (Decidable (_/\_))
def has1(p:Pnt):Prop:=zdQ p/\vu p/\p.sp=0/\p.t.same qn
instance (p:Pnt):Decidable (has1 p):=inferInstanceAs (Decidable (_/\_))
def has2(p:Pnt):Prop:=vu p/\p.c=zdP/\p.r=0/\zr p.p0/\zr p.p1/\zex p.st/\zp8 p.sp
instance (p:Pnt):Decidable (has2 p):=inferInstanceAs (Decidable (_/\_))
def has3(p:Pnt):Prop:=vu p/\p.c=zdP/\p.p1=zp/\zr p.p0/\1<=p.r/\p.r<=1048576/\zex p.st/\zp8 p.sp
instance (p:Pnt):Decidable (has3 p):=inferInstanceAs (Decidable (_/\_))
def has4(p:Pnt):Prop:=zdQ p/\p.c=zdP/\zeS p.im/\(p.sp=0∨zp8 p.sp)/\(p.sm=1∨p.sm=2)
instance (p:Pnt):Decidable (has4 p):=inferInstanceAs (Decidable (_/\_))
def znM(p:Pnt):Prop:=(p.k=1/\has1 p)∨(p.k=2/\has2 p)∨(p.k=3/\has3 p)∨(p.k=4/\has4 p)
instance (p:Pnt):Decidable (znM p):=inferInstanceAs (Decidable (_∨_))
def vv(p:Pnt):Prop:=p.t.ok/\znM p/\(p.k=1∨yr p.t≠0)
instance (p:Pnt):Decidable (vv p):=inferInstanceAs (Decidable (_/\_))
variable{p:Pnt}
theorem zAk(h:p.k=1):(vg p).same (zba p.k)↔zdQ p/\vu p/\p.sp=0:=by
 rw[vg,if_pos h]
 rcases p with⟨k,c,p0,p1,r,st,sp,⟨w,hh,px⟩,sm,t⟩
 simp only[Pnt.same,zba,zdQ,vu,Img.mk.injEq];constructor
 ·rintro⟨_,_,h3,h4,h5,h6,h7,⟨h8,h9,h10⟩,h11,_⟩
  exact⟨⟨h3,h4,h5,h6⟩,⟨h8,h9,h10,h11⟩,h7⟩
 ·rintro⟨⟨h3,h4,h5,h6⟩,⟨h8,h9,h10,h11⟩,h7⟩
  exact⟨trivial,trivial,h3,h4,h5,h6,h7,⟨h8,h9,h10⟩,h11,rfl,rfl,rfl,rfl,rfl,rfl⟩
theorem zAl(h:p.k=2):(vg p).same (zba p.k)↔vu p/\p.c=zdP/\p.r=0:=by
 rw[vg,if_neg oM,if_pos h]
 rcases p with⟨k,c,p0,p1,r,st,sp,⟨w,hh,px⟩,sm,t⟩
 simp only[Pnt.same,zba,vu,Img.mk.injEq];constructor
 ·rintro⟨_,h2,_,_,h5,_,_,⟨h8,h9,h10⟩,h11,_⟩
  exact⟨⟨h8,h9,h10,h11⟩,h2,h5⟩
 ·rintro⟨⟨h8,h9,h10,h11⟩,h2,h5⟩
  exact⟨trivial,h2,trivial,trivial,h5,trivial,trivial,⟨h8,h9,h10⟩,h11,rfl,rfl,rfl,rfl,rfl,rfl⟩
theorem zAm(h:p.k=3):(vg p).same (zba p.k)↔vu p/\p.c=zdP/\p.p1=zp:=by
 rw[vg,if_neg oM,if_neg oM,if_pos h]
 rcases p with⟨k,c,p0,p1,r,st,sp,⟨w,hh,px⟩,sm,t⟩
 simp only[Pnt.same,zba,vu,Img.mk.injEq];constructor
 ·rintro⟨_,h2,_,h4,_,_,_,⟨h8,h9,h10⟩,h11,_⟩
  exact⟨⟨h8,h9,h10,h11⟩,h2,h4⟩
 ·rintro⟨⟨h8,h9,h10,h11⟩,h2,h4⟩
  exact⟨trivial,h2,trivial,h4,trivial,trivial,trivial,⟨h8,h9,h10⟩,h11,rfl,rfl,rfl,rfl,rfl,rfl⟩
theorem zAn(h:p.k=4):(vg p).same (zba p.k)↔zdQ p/\p.c=zdP:=by
 rw[vg,if_neg oM,if_neg oM,if_neg oM,if_pos h]
 rcases p with⟨k,c,p0,p1,r,st,sp,⟨w,hh,px⟩,sm,t⟩
 simp only[Pnt.same,zba,zdQ];constructor
 ·rintro⟨_,h2,h3,h4,h5,h6,_⟩
  exact⟨⟨h3,h4,h5,h6⟩,h2⟩
 ·rintro⟨⟨h3,h4,h5,h6⟩,h2⟩
  exact⟨trivial,h2,h3,h4,h5,h6,trivial,trivial,trivial,rfl,rfl,rfl,rfl,rfl,rfl⟩
theorem zzs(p:Pnt):(vg p).t=qn:=by
 unfold vg;repeat (first | rfl | split)
theorem yy(n:Nat):qn.le n:=⟨Xe _,Xe _,Xe _,Xe _,Xe _,Xe _⟩
theorem uP(x:Rat):¬zg6 x 0=0↔x≠0:=by
 have h1:=zm3 (x:=x) (y:=0);have h2:=zsi (x:=x) (y:=0);constructor
 ·rintro h rfl
  exact h (Int.le_antisymm (h2.2 Rat.le_refl) (h1.2 Rat.le_refl))
 ·intro h k;exact h (Rat.le_antisymm (h2.1 oM) (h1.1 oM))
theorem zgH{t:AF}{n:Nat}(h:t.le n):jY (yr t)<=4*n+5:=by
 obtain⟨ha,hb,hc,hd,_,_⟩:=h;have h1:=zoU (t.a.v*t.d.v) (t.b.v*t.c.v);have h2:=yf t.a.v t.d.v;have h3:=yf t.b.v t.c.v;have h4:=zH t.a;have h5:=zH t.b;have h6:=zH t.c;have h7:=zH t.d;unfold yr;omega
theorem zrA(p:Pnt)(hp:p.t.le 1000)(hl:p.im.px.length<=9223372036854775807):CG0 380 [.agg (u5 p)] [] (pr (vv p)) []:=by
 refine zc Tryz.func380 ?_;have hp7:p.t.le 10000000:=hp.up dC;refine Dr.k<|zb.t (zcu p.t (hp.up dC))<|⟨λh1=>zd (λk=>h1 k.1),λh1=>?_⟩;have h1:=Xa.1 h1;refine zb.t (zuG p)<|zb.t ((zrz (vg p) (zba p.k) (by rw[zzs];exact yy _) (yy _)).args (.cons .refl (.cons (zxD p.k) .nil))) ?_
 have only:p.k=1∨p.k=2∨p.k=3∨p.k=4->¬(vg p).same (zba p.k)->¬znM p:=by
  intro _ h2 k
  rcases k with⟨e,k⟩ | ⟨e,k⟩ | ⟨e,k⟩ | ⟨e,k⟩
  ·exact h2 ((zAk e).2 ⟨k.1,k.2.1,k.2.2.1⟩)
  ·exact h2 ((zAl e).2 ⟨k.1,k.2.1,k.2.2.1⟩)
  ·exact h2 ((zAm e).2 ⟨k.1,k.2.1,k.2.2.1⟩)
  ·exact h2 ((zAn e).2 ⟨k.1,k.2.1⟩)
 refine⟨λh2=>zd (λk=>only (by rcases k.2.1 with h | h | h | h <;> omega) h2 k.2.1),λh2=>?_⟩;have h2:=Xa.1 h2;have hcmp:=zfZ (ofQ (yr p.t)) zBR (by have:=zgH hp;rw[zB];omega) (Xe _);rw[z6,zBR_v]at hcmp;have det:=hcmp.args (args:=[.agg (brE (ofQ (yr p.t))),.agg [bl false,.val (.slice none 0 0),bl false,.val (.slice none 0 0)]]) (.cons .refl (.cons (qA jP) .nil));refine⟨λk1=>?_,λk1=>?_⟩
 ·have hb:=(zAk k1).1 h2;refine zb.t ((zsk p.t qn hp7 (yy _)).args (.cons .refl (.cons zaI .nil)))<|zF ⟨λh=>⟨h1,.inl ⟨k1,hb.1,hb.2.1,hb.2.2,h⟩,.inl k1⟩,λh=>?_⟩
  rcases h.2.1 with⟨e,k⟩ | ⟨e,_⟩ | ⟨e,_⟩ | ⟨e,_⟩
  ·exact k.2.2.2
  all_goals omega
 refine⟨λk2=>?_,λk2=>?_⟩
 ·have hb:=(zAl k2).1 h2
  have get:vv p->has2 p:=λh=>by
   rcases h.2.1 with⟨e,_⟩ | ⟨e,k⟩ | ⟨e,_⟩ | ⟨e,_⟩
   ·omega
   ·exact k
   all_goals omega
  refine zb.t (qg p.p0)<|⟨λh3=>zd (λk=>h3 (get k).2.2.2.1),λh3=>?_⟩;refine zb.t (qg p.p1)<|⟨λh4=>zd (λk=>h4 (get k).2.2.2.2.1),λh4=>?_⟩;refine zb.t (zgG p)<|⟨λh5=>zd (λk=>h5 (get k).2.2.2.2.2),λh5=>?_⟩;refine zb.t (zhQ p.t hp7)<|zb.t det ?_;refine zF ((uP _).trans ⟨λh=>⟨h1,.inr (.inl ⟨k2,hb.1,hb.2.1,hb.2.2,Xa.1 h3,Xa.1 h4,Xa.1 h5⟩),.inr h⟩,λh=>h.2.2.resolve_left oM⟩)
 refine⟨λk3=>?_,λk3=>?_⟩
 ·have hb:=(zAm k3).1 h2
  have get:vv p->has3 p:=λh=>by
   rcases h.2.1 with⟨e,_⟩ | ⟨e,_⟩ | ⟨e,k⟩ | ⟨e,_⟩
   ·omega
   ·omega
   ·exact k
   ·omega
  refine zb.t (qg p.p0)<|⟨λh3=>zd (λk=>h3 (get k).2.2.2.1),λh3=>?_⟩;refine⟨λh4=>zd (λk=>by have:=(get k).2.2.2.2.1;omega),λh4=>?_⟩;refine⟨λh5=>zd (λk=>by have:=(get k).2.2.2.2.2.1;omega),λh5=>?_⟩;refine zb.t (zgG p)<|⟨λh6=>zd (λk=>h6 (get k).2.2.2.2.2.2),λh6=>?_⟩;refine zb.t (zhQ p.t hp7)<|zb.t det ?_
  refine zF ((uP _).trans ⟨λh=>⟨h1,.inr (.inr (.inl ⟨k3,hb.1,hb.2.1,hb.2.2,Xa.1 h3,oM,oM,Xa.1 h6⟩)),.inr h⟩,λh=>h.2.2.resolve_left oM⟩)
 refine⟨λk4=>?_,λk4=>?_⟩
 ·have hb:=(zAn k4).1 h2
  have get:vv p->has4 p:=λh=>by
   rcases h.2.1 with⟨e,_⟩ | ⟨e,_⟩ | ⟨e,_⟩ | ⟨e,k⟩
   ·omega
   ·omega
   ·omega
   ·exact k
  refine zb.t (zmd p.im hl)<|⟨λh3=>zd (λk=>h3 (get k).2.2.1),λh3=>?_⟩;refine⟨λh4=>?_,λh4=>?_⟩
  ·refine zb.t (zeT p.sp)<|⟨λh5=>zd (λk=>by rcases(get k).2.2.2.1 with h | h;exact h4 h;exact h5 h),λh5=>?_⟩;refine⟨λh6=>?_,λh6=>?_⟩
   ·refine⟨λh7=>zd (λk=>by have:=(get k).2.2.2.2;omega),λh7=>?_⟩;refine zb.t (zhQ p.t hp7)<|zb.t det ?_;refine zF ((uP _).trans ⟨λh=>⟨h1,.inr (.inr (.inr ⟨k4,hb.1,hb.2,Xa.1 h3,.inr (Xa.1 h5),oM⟩)),.inr h⟩,λh=>h.2.2.resolve_left oM⟩)
   ·refine zb.t (zhQ p.t hp7)<|zb.t det ?_;refine zF ((uP _).trans ⟨λh=>⟨h1,.inr (.inr (.inr ⟨k4,hb.1,hb.2,Xa.1 h3,.inr (Xa.1 h5),oM⟩)),.inr h⟩,λh=>h.2.2.resolve_left oM⟩)
  ·refine⟨λh6=>?_,λh6=>?_⟩
   ·refine⟨λh7=>zd (λk=>by have:=(get k).2.2.2.2;omega),λh7=>?_⟩;refine zb.t (zhQ p.t hp7)<|zb.t det ?_;refine zF ((uP _).trans ⟨λh=>⟨h1,.inr (.inr (.inr ⟨k4,hb.1,hb.2,Xa.1 h3,.inl oM,oM⟩)),.inr h⟩,λh=>h.2.2.resolve_left oM⟩)
   ·refine zb.t (zhQ p.t hp7)<|zb.t det ?_;refine zF ((uP _).trans ⟨λh=>⟨h1,.inr (.inr (.inr ⟨k4,hb.1,hb.2,Xa.1 h3,.inl oM,oM⟩)),.inr h⟩,λh=>h.2.2.resolve_left oM⟩)
 ·exact zd (λk=>by rcases k.2.1 with⟨e,_⟩ | ⟨e,_⟩ | ⟨e,_⟩ | ⟨e,_⟩ <;> omega)
def zkv(mode:Int):Prop:=1<=mode/\mode<=13
instance instB01 (m:Int):Decidable (zkv m):=inferInstanceAs (Decidable (_/\_))
theorem zBJ(m:Int):CG0 264 [i64 m] [] (pr (zkv m)) []:=by
 refine zc Tryz.func264 ?_;refine⟨λh1=>?_,λh1=>zd (λh=>h1 h.1)⟩;exact zF ⟨λh=>⟨h1,h⟩,λh=>h.2⟩
theorem zBK(m:Int):CG0 297 [i64 m] [] (pr (zkv m)) []:=by
 refine zc Tryz.func297 ?_;refine⟨λh1=>?_,λh1=>zd (λh=>h1 h.1)⟩;exact zF ⟨λh=>⟨h1,h⟩,λh=>h.2⟩
def znQ(ks:List Int):List (Int×SV):=ks.map λk=>(k,bl true)
theorem zuO{n:Int}{A K0:Prop}{F:Int×SV->List (Int×SV)->Prop->Prop}{ks:List Int}(hF:∀k r ih,(n=k->A)->(¬n=k->ih)->F (k,bl true) r ih)(h1:n∈ks->A)(h0:n∉ks->K0):
  List.rec (motive:=λ_=>Prop) K0 F (znQ ks):=by
 induction ks with
 | nil=>exact h0 (by simp)
 | cons k r ih=>
  exact hF k (znQ r) _ (λe=>h1 (by rw[e];exact .head _)) λe=>ih (λh=>h1 (.tail _ h)) λh=>h0 λhm=>by
   cases hm with
   | head=>exact e rfl
   | tail _ h'=>exact h h'
theorem zqe{n:Int}:∀{ks:List Int} {K:List (Int×SV)->Prop},n∉ks->K (znQ (ks++[n]))->zvc (znQ ks) n (bl true) K
 | [],_,_,k=>k
 | a::r,K,hn,k=>by
  show Br (n=a->K ((n,bl true)::znQ r)) (¬n=a->zvc (znQ r) n (bl true) λr'=>K ((a,bl true)::r'));exact⟨λe=>absurd (e ▸ .head _) hn,λ_=>zqe (λh=>hn (.tail _ h)) k⟩
theorem zmm{p:Pix}:(p.r=0/\p.g=0/\p.b=0/\p.a=0/\True)↔p=zdP:=zkr (q:=zdP)
theorem pt_z{p:Pt}:(p.x=0/\p.y=0/\True)↔p=zp:=k8 (q:=zp)
theorem zxN(p:Pnt):CG0 414 [.agg (u5 p)] [] (pr (zdQ p)) []:=by
 refine zc Tryz.func414 ?_;refine⟨λh1=>?_,λh1=>zd (λh=>h1 (k8.2 h.1))⟩;refine⟨λh2=>?_,λh2=>zd (λh=>h2 (k8.2 h.2.1))⟩;refine⟨λh3=>?_,λh3=>zd (λh=>h3 h.2.2.1)⟩;intro hl;exact zF ⟨λh=>⟨pt_z.1 h1,pt_z.1 h2,h3,XJ.1 oM⟩,λh=>by rw[h.2.2.2];rfl⟩
theorem zhC(p:Pnt):CG0 415 [.agg (u5 p)] [] (pr (vu p)) []:=by
 refine zc Tryz.func415 ?_;refine⟨λh1=>?_,λh1=>zd (λh=>h1 h.1)⟩;refine⟨λh2=>?_,λh2=>zd (λh=>h2 h.2.1)⟩;intro hl;refine⟨λh3=>?_,λh3=>zd (λh=>h3 (by rw[h.2.2.1];rfl))⟩;exact zF ⟨λh=>⟨h1,h2,XJ.1 oM,h⟩,λh=>h.2.2.2⟩
theorem zzB(t:AF)(ht:t.le 10000000):CG0 416 [.agg (afE t)] [] (pr (t.same qn)) []:=by
 refine zc Tryz.func416 ?_;exact zb.t ((zlA t qn ht (yy _)).args (.cons .refl (.cons zaI .nil)))<|.refl
theorem c_has(p:Pnt)(hp:p.t.le 10000000):CG0 404 [.agg (u5 p)] [] (pr (znM p)) []:=by
 refine zc Tryz.func404 ?_;refine⟨λk1=>?_,λk1=>?_⟩
 ·have get:znM p->has1 p:=λh=>by rcases h with⟨e,k⟩ | ⟨e,k⟩ | ⟨e,k⟩ | ⟨e,k⟩ <;> first | exact k | omega
  refine zb.t (zxN p)<|⟨λh1=>?_,λh1=>zd (λk=>h1 (get k).1)⟩;refine zb.t (zhC p)<|⟨λh2=>?_,λh2=>zd (λk=>h2 (get k).2.1)⟩;refine⟨λh3=>?_,λh3=>zd (λk=>h3 (get k).2.2.1)⟩;exact zb.t (zzB p.t hp)<|zF ⟨λh=>.inl ⟨k1,h1,h2,h3,h⟩,λk=>(get k).2.2.2⟩
 refine⟨λk2=>?_,λk2=>?_⟩
 ·have get:znM p->has2 p:=λh=>by rcases h with⟨e,k⟩ | ⟨e,k⟩ | ⟨e,k⟩ | ⟨e,k⟩ <;> first | exact k | omega
  refine zb.t (zhC p)<|⟨λh1=>?_,λh1=>zd (λk=>h1 (get k).1)⟩;refine⟨λh2=>?_,λh2=>zd (λk=>h2 (zmm.2 (get k).2.1))⟩;refine⟨λh3=>?_,λh3=>zd (λk=>h3 (get k).2.2.1)⟩;refine zb.t (kH p.p0)<|⟨λh4=>?_,λh4=>zd (λk=>h4 (get k).2.2.2.1)⟩;refine zb.t (kH p.p1)<|⟨λh5=>?_,λh5=>zd (λk=>h5 (get k).2.2.2.2.1)⟩;refine zb.t (zmf p.st)<|⟨λh6=>?_,λh6=>zd (λk=>h6 (get k).2.2.2.2.2.1)⟩;refine zb.t (zbb p.sp) ?_
  exact zF ⟨λh=>.inr (.inl ⟨k2,h1,zmm.1 h2,h3,h4,h5,h6,h⟩),λk=>(get k).2.2.2.2.2.2⟩
 refine⟨λk3=>?_,λk3=>?_⟩
 ·have get:znM p->has3 p:=λh=>by rcases h with⟨e,k⟩ | ⟨e,k⟩ | ⟨e,k⟩ | ⟨e,k⟩ <;> first | exact k | omega
  refine zb.t (zhC p)<|⟨λh1=>?_,λh1=>zd (λk=>h1 (get k).1)⟩;refine⟨λh2=>?_,λh2=>zd (λk=>h2 (zmm.2 (get k).2.1))⟩;refine⟨λh3=>?_,λh3=>zd (λk=>h3 (pt_z.2 (get k).2.2.1))⟩;refine zb.t (kH p.p0)<|⟨λh4=>?_,λh4=>zd (λk=>h4 (get k).2.2.2.1)⟩;refine⟨λh5=>?_,λh5=>zd (λk=>h5 (get k).2.2.2.2.1)⟩;refine⟨λh6=>?_,λh6=>zd (λk=>h6 (get k).2.2.2.2.2.1)⟩;refine zb.t (zmf p.st) ?_
  refine⟨λh7=>?_,λh7=>zd (λk=>h7 (get k).2.2.2.2.2.2.1)⟩;exact zb.t (zbb p.sp)<|zF ⟨λh=>.inr (.inr (.inl ⟨k3,h1,zmm.1 h2,pt_z.1 h3,h4,h5,h6,h7,h⟩)),λk=>(get k).2.2.2.2.2.2.2⟩
 refine⟨λk4=>?_,λk4=>?_⟩
 ·have get:znM p->has4 p:=λh=>by rcases h with⟨e,k⟩ | ⟨e,k⟩ | ⟨e,k⟩ | ⟨e,k⟩ <;> first | exact k | omega
  refine zb.t (zxN p)<|⟨λh1=>?_,λh1=>zd (λk=>h1 (get k).1)⟩;refine⟨λh2=>?_,λh2=>zd (λk=>h2 (zmm.2 (get k).2.1))⟩;refine zb.t (zkq p.im)<|⟨λh3=>?_,λh3=>zd (λk=>h3 (get k).2.2.1)⟩;have yes:(p.sp=0∨zp8 p.sp)->(p.sm=1∨p.sm=2)->znM p:=λa b=>.inr (.inr (.inr ⟨k4,h1,zmm.1 h2,h3,a,b⟩))
  refine⟨λh4=>?_,λh4=>?_⟩
  ·refine⟨λh5=>zT (yes (.inl h4) (.inl h5)),λh5=>?_⟩;exact zF ⟨λh=>yes (.inl h4) (.inr h),λk=>(get k).2.2.2.2.resolve_left h5⟩
  ·refine zb.t (zbb p.sp)<|⟨λh6=>?_,λh6=>zd (λk=>by rcases(get k).2.2.2.1 with h | h;exact h4 h;exact h6 h)⟩;refine⟨λh5=>zT (yes (.inr h6) (.inl h5)),λh5=>?_⟩;exact zF ⟨λh=>yes (.inr h6) (.inr h),λk=>(get k).2.2.2.2.resolve_left h5⟩
 ·exact zd (λk=>by rcases k with⟨e,_⟩ | ⟨e,_⟩ | ⟨e,_⟩ | ⟨e,_⟩ <;> omega)
theorem zqi(p:Pnt)(hp:p.t.le 1000):CG0 384 [.agg (u5 p)] [] (pr (vv p)) []:=by
 refine zc Tryz.func384 ?_;refine zb.t (zbV p.t (hp.up dC))<|⟨λh1=>zd (λk=>h1 k.1),λh1=>?_⟩;have h1:=Xa.1 h1;refine zb.t (c_has p (hp.up dC))<|⟨λh2=>zd (λk=>h2 k.2.1),λh2=>?_⟩;have h2:=Xa.1 h2;refine⟨λh3=>zT ⟨h1,h2,.inl h3⟩,λh3=>?_⟩;refine zb.t (zsl p.t (hp.up dC)) ?_;have hz:=jf 0 dC;refine zb.t hz ?_;have hcmp:=zm6 (ofQ (yr p.t)) (ofQ ((0:Int):Rat)) (by have:=zgH hp;rw[zB];omega) (by have:=zxC (n:=0) dC;rw[zB];omega);rw[z6,z6]at hcmp
 refine zb.t hcmp ?_;refine zF ((uP _).trans ⟨λh=>⟨h1,h2,.inr h⟩,λh=>h.2.2.resolve_left h3⟩)
end
end Go.Gs
