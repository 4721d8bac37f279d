/- Dashes: a part cut out, in the first text. -/
import Derived.Test.YtplllpkdmehklaaGreatDoorMA
import Derived.Test.YtplllpkdmehklaaGreatDoorMBN
import Derived.Test.YtplllpkdmehklaaGreatDoorMBE
import Derived.Test.YtplllpkdmehklaaGreatDoorMAY
import Derived.Test.YtplllpkdmehklaaGreatDoorMBF
import Derived.Defers
import Derived.Test.YtplllpkdmehklaaGreatDoorMAV
import Derived.Test.YtplllpkdmehklaaGreatDoorMAS
set_option maxRecDepth 100000
set_option maxHeartbeats 8000000
set_option linter.all false
namespace Go.Gs
open Go.Proofs
theorem zxt(q:List Pt)(x:Pt)(hq:0 < q.length/\q.length<=100000):zd Tryz.prog 258 [.agg (ptE x),.loc 0 0] [(0,.box 87 [.own 1]),(1,.arr 63 ptE 2 q)] (.tup []) [(0,.box 87 [.own 2]),(2,.arr 63 ptE 2 (yk q x))]:=by
 refine zaE tok mix Tryz.func258 rfl rfl rfl ?_;refine Dr.d ?_;intro hl;refine Ar.o ?_;refine Ob.o ?_;refine Ob.o ?_;intro z hz
 have hz:q[q.length - 1]? =some z:=by
  have hz:q[((q.length:Int) - 1).toNat]? =some z:=hz
  rwa [show ((q.length:Int) - 1).toNat=q.length - 1 by omega] at hz
 refine Ob.mk (by kernel_rfl) ?_;refine Br.mk (fun k=>?_) (fun k=>?_)
 ·have k:¬z=x:=fun h=>k (qJ.2 h)
  refine ⟨Pt,ptE,[x],rfl,Ob.o0 ?_⟩;refine ⟨[x],rfl,Ob.o11 ?_⟩;refine ⟨⟨[],[(0,.box 87 [.own 2]),(2,.arr 63 ptE 2 (yk q x))],3,15,2⟩,zY [(0,some 0),(1,some 1),(2,some 4)] ⟨rfl,congrArg (fun q=>some (Mem.arr 63 ptE 2 q)) (zse hz k).symm,trivial⟩,rfl,.refl⟩
 ·have k:z=x:=qJ.1 (Decidable.not_not.1 k);refine ⟨⟨[],[(0,.box 87 [.own 2]),(2,.arr 63 ptE 2 (yk q x))],3,15,2⟩,zY [(0,some 0),(1,some 1),(2,some 1)] ⟨rfl,congrArg (fun q=>some (Mem.arr 63 ptE 2 q)) (zw2 hz k).symm,trivial⟩,rfl,.refl⟩
theorem zlp(q more:List Pt)(x:Pt):qc q (more++[x])=yk (qc q more) x:=by unfold qc;rw [List.foldl_append];rfl
theorem zlq(c:List Pt)(f t:Int)(n:Nat):zoB c f t (n+1)=zoB c f t n++if f < atS c n/\atS c n < t then [nth c n] else []:=by
 unfold zoB;rw [List.range_succ,List.filter_append,List.map_append];congr 1
 by_cases h:f < atS c n/\atS c n < t
 ·rw [if_pos h,List.filter_cons_of_pos (by simpa using h)];rfl
 ·rw [if_neg h,List.filter_cons_of_neg (by simpa using h)];rfl
def zbm(c:List Pt)(f t:Int)(n:Nat):List Pt:=qc [] ([zhx c f]++zoB c f t n)
theorem zo5{c:List Pt}{f t:Int}{n:Nat}(h:f < atS c n/\atS c n < t):zbm c f t (n+1)=yk (zbm c f t n) (nth c n):=by
 unfold zbm;rw [zlq,if_pos h,← List.append_assoc,zlp]
theorem zsp{c:List Pt}{f t:Int}{n:Nat}(h:¬(f < atS c n/\atS c n < t)):zbm c f t (n+1)=zbm c f t n:=by
 unfold zbm;rw [zlq,if_neg h,List.append_nil]
theorem zo6(c:List Pt)(f t:Int):zei c f t=yk (zbm c f t (c.length - 1)) (zhx c t):=by
 unfold zei zbm;rw [zlp]
theorem zo7(c:List Pt)(f t:Int)(n:Nat):0 < (zbm c f t n).length/\(zbm c f t n).length<=n+1:=by
 induction n with
 | zero=>exact ⟨Nat.lt_succ_self 0,Nat.le_refl 1⟩
 | succ n ih=>
  by_cases h:f < atS c n/\atS c n < t
  ·rw [zo5 h];have h1:=zmO (zbm c f t n) (nth c n);refine ⟨?_,oM⟩;unfold yk
   split
   ·exact ih.1
   ·simp
  ·rw [zsp h];omega
theorem zzD(c:List Pt)(f t:Int):0 < (zei c f t).length/\(zei c f t).length<=c.length+2:=by
 rw [zo6];have h:=zo7 c f t (c.length - 1);have h1:=zmO (zbm c f t (c.length - 1)) (zhx c t);refine ⟨?_,oM⟩;unfold yk
 split
 ·exact h.1
 ·simp
theorem zAF(q:Pl)(f t:Int)(hq:q.pts.length<=4096)(h2:2<=(zR q).length)(hf:0<=f/\f<=70368744177664)(ht:0<=t/\t<=70368744177664):zd Tryz.prog 209 [.agg (meE (meQ q)),i64 f,i64 t] [] (.sl ptE (zei (zR q) f t)) []:=by
 refine zc tok mix Tryz.func209 rfl rfl rfl ?_;have ll:=yQ q;have tl:(meQ q).ts.length=(zR q).length - 1:=zhS ..;refine zb.t (zso q f hq h2 hf) ?_;refine ⟨Pt,ptE,[zhx (zR q) f],rfl,Ob.o0 ?_⟩;intro hl1;refine ⟨Nat,fun i=>⟨[(1,i64 f),(2,i64 t),(3,.loc 0 0),(7,.loc 1 0),(8,.fn 258 [.loc 1 0]),(17,.sl uR (meQ q).ts),(18,i64 ((meQ q).ts.length:Int)),(19,i64 (i:Int))],[(0,.box 229 (meE (meQ q))),(1,.box 87 [.own 2]),(2,.arr 63 ptE 2 (zbm (zR q) f t i))],3,46,0⟩,fun i=>i<=(zR q).length - 1,fun i=>(zR q).length - i,0,?_,?_,?_⟩
 ·exact Nat.zero_le _
 ·exact zf [(0,some 0),(1,some 2),(2,some 1)]
 rintro i hi
 have cl:=zo7 (zR q) f t i;refine Br.mk (fun g=>?_) (fun g=>?_)
 ·have g:(i:Int) < ((meQ q).ts.length:Int):=g;have stay:¬(f < atS (zR q) i/\atS (zR q) i < t)->zbm (zR q) f t i=zbm (zR q) f t (i+1):=fun h=>(zsp h).symm
  refine Ob.o ?_;intro y hy;have hy:=zgD (show (tsL (zR q) ((zR q).length - 1))[i]? =some y from hy);refine Br.mk (fun k1=>Br.mk (fun k2=>?_) (fun k2=>?_)) (fun k1=>?_);rotate_left
  ·have k2:¬y < t:=k2;refine Ar.o ?_;exact ⟨i+1,oM,zY [(0,some 0),(1,some 1),(2,some 2)] ⟨rfl,rfl,congrArg (fun q=>some (Mem.arr 63 ptE 2 q)) (stay fun h=>k2 (by rw [hy];exact h.2)),trivial⟩,by dsimp only;omega⟩
  ·have k1:¬f < y:=k1;refine Ar.o ?_;exact ⟨i+1,oM,zY [(0,some 0),(1,some 1),(2,some 2)] ⟨rfl,rfl,congrArg (fun q=>some (Mem.arr 63 ptE 2 q)) (stay fun h=>k1 (by rw [hy];exact h.1)),trivial⟩,by dsimp only;omega⟩
  ·have k1:f < y:=k1;have k2:y < t:=k2;rw [hy] at k1 k2;refine Ob.mk (show 0<=(i:Int)/\(i:Int) < (q.pts.length:Int) by omega) ?_;intro x hx;have hx:=uG (show q.pts[i]? =some x from hx);rw [← zaT (q:=q) (i:=i) oM] at hx
   refine zb.give [1,2] 1 [.agg (ptE x),.loc 0 0] [(0,.box 87 [.own 1]),(1,.arr 63 ptE 2 (zbm (zR q) f t i))] [(0,.box 87 [.own 2]),(2,.arr 63 ptE 2 (yk (zbm (zR q) f t i) x))] (.tup []) (zxt (zbm (zR q) f t i) x ⟨cl.1,oM⟩)
    LEs.refl rfl rfl rfl ⟨⟨_,rfl,rfl,rfl⟩,⟨_,rfl,rfl,trivial⟩,trivial⟩ rfl ⟨⟨rfl,rfl⟩,⟨rfl,trivial⟩,trivial⟩ ?_
   refine Ar.o ?_;exact ⟨i+1,oM,zY [(0,some 0),(1,some 1),(2,some 3)] ⟨rfl,rfl,congrArg (fun q=>some (Mem.arr 63 ptE 2 q)) (by rw [zo5 ⟨k1,k2⟩,hx]),trivial⟩,by dsimp only;omega⟩
 have g:¬(i:Int) < ((meQ q).ts.length:Int):=g;have ei:i=(zR q).length - 1:=oM;refine zb.t (zso q t hq h2 ht) ?_
 refine zb.give [1,2] 1 [.agg (ptE (zhx (zR q) t)),.loc 0 0] [(0,.box 87 [.own 1]),(1,.arr 63 ptE 2 (zbm (zR q) f t i))] [(0,.box 87 [.own 2]),(2,.arr 63 ptE 2 (yk (zbm (zR q) f t i) (zhx (zR q) t)))] (.tup []) (zxt (zbm (zR q) f t i) (zhx (zR q) t) ⟨cl.1,oM⟩)
  LEs.refl rfl rfl rfl ⟨⟨_,rfl,rfl,rfl⟩,⟨_,rfl,rfl,trivial⟩,trivial⟩ rfl ⟨⟨rfl,rfl⟩,⟨rfl,trivial⟩,trivial⟩ ?_
 refine qy ?_;rw [zo6,ei]
instance (t:AF) (n:Nat):Decidable (t.le n):=inferInstanceAs (Decidable (_/\_))
def yG(p:Nat×SV):Nat×SV:=
 match p.2 with
 | .loc k o=>(p.1,.loc k o)
 | _=>(p.1,.junk)
theorem zfW:∀(L:List (Nat×SV)) (t:Nat) (s:SV),kM (L.map yG) t=some s->s=.junk∨∃k o,s=.loc k o/\kM L t=some (.loc k o)
 | [],t,s,h=>by simp [kM] at h
 | (d,s0)::L,t,s,h=>by
  have e:(((d,s0)::L).map yG)=(d,(yG (d,s0)).2)::L.map yG:=by
   simp only [List.map_cons];congr 1;unfold yG;dsimp only;split <;> rfl
  rw [e,kw] at h
  split at h
  ·rename_i hd
   cases h
   unfold yG;dsimp only
   split
   ·rename_i k o;exact .inr ⟨k,o,rfl,by rw [kw,if_pos hd]⟩
   ·exact .inl rfl
  ·rename_i hd
   rcases zfW L t s h with h | ⟨k,o,h1,h2⟩
   ·exact .inl h
   ·exact .inr ⟨k,o,h1,by rw [kw,if_neg hd,h2]⟩
def zxw:SV->Bool
 | .loc _ _=>true
 | _=>false
def zAG(K:St->Prop):Ex->St->Prop
 | .exit _,_=>False
 | .normal,σ=>K σ
 | .ret,σ=>K σ
def zsq(n:Nat)(P:Program)(Γ:List (TypeId×TI))(fn cfn:Func)(cc:Code)(caps:List SV)(r:SV)(σ3:St):Prop:=
 Nat.beq σ3.M.length σ3.nk=true/\jJ P Γ cc ⟨jS 0 caps,σ3.M,σ3.M.length,cfn.ntmps,σ3.M.length⟩ (zAG fun σ4=>zbo σ4 Γ cfn.results.toList fun _=>
  zbo ⟨σ3.L.map yG,σ4.M,σ4.nk,σ3.nt,0⟩ Γ fn.results.toList fun s=>LE (zhy (zN σ4.M) n s) r)
def zzK(n:Nat)(P:Program)(Γ:List (TypeId×TI))(fn cfn:Func)(cc:Code)(caps:List SV)(r:SV)(σ3:St):Prop:=∃σ',Sub σ3 σ'/\zsq n P Γ fn cfn cc caps r σ'
def zBX(n:Nat)(P:Program)(Γ:List (TypeId×TI))(fn cfn:Func)(cf:FuncId)(t:Tmp)(rest cc:Code)(r:SV)(σ2:St):Prop:=
 ∃caps,kM σ2.L t=some (.fn cf caps)/\Nat.ble caps.length cfn.ntmps=true/\caps.all zxw=true/\jJ P Γ rest ⟨σ2.L,σ2.M,σ2.nk,σ2.nt,σ2.nk⟩ (zAG (zzK n P Γ fn cfn cc caps r))
def vcDf(n:Nat)(P:Program)(Γ:List (TypeId×TI))(fn cfn:Func)(cf:FuncId)(cc:Code)(r:SV):Nat->Code->St->Prop
 | 0,c,σ=>∃id o1 o2 rest t,c=.seq (.region id #[o1,o2] false) rest/\o2.op=.defer ⟨.value (.tmp t),#[],#[]⟩/\o2.guard=none/\o2.dst=none/\
   uL P Γ false [o1,o2] [o1] 0 σ (zBX n P Γ fn cfn cf t rest cc r)
 | k+1,c,σ=>∃x y,c=.seq x y/\jJ P Γ x σ fun e σ=>match e with
   | .normal=>vcDf n P Γ fn cfn cf cc r k y σ
   | .ret=>zbo σ Γ fn.results.toList fun s=>LE (zhy (zN σ.M) n s) r
   | .exit _=>False
theorem zxx {E:Env} {M:List (Nat×Mem)} {ρ:zi} {w:World} {n:Nat} {s r:SV} {v:Value} (hm:zJ E.Keep M ρ w) (hle:LE (zhy (zN M) n s) r)
  (hg:G (fun b=>E.Keep b∨Own M ρ b) (Own M ρ) ρ w s v):G (fun b=>E.Keep b∨Own [] ρ b) (Own [] ρ) ρ w r v:=by
 have hd:∀{s:SV} {v:Value},G (fun b=>E.Keep b∨Own M ρ b) (Own M ρ) ρ w s v->D (fun b=>E.Keep b∨Own [] ρ b) w (frz (zN M) n s) v:=fun h=>
  (zoJ (fun k m h=>zr h) hm n h).less fun b hb=>hb.resolve_right zT
 refine hle _ _ _ _ _ ?_;unfold zhy
 split
 ·rename_i cs;obtain ⟨vs,rfl,hvs⟩:=hg.tup_inv;refine .tup _ vs (by rw [List.length_map];exact hvs.1) fun j s v hs hv=>?_
  rw [List.getElem?_map] at hs
  cases hc:cs[j]? with
  | none=>simp [hc] at hs
  | some c=>
   simp [hc] at hs;subst hs;exact .d _ _ (hd (hvs.2 j c v hc hv))
 ·exact .d _ _ (hd hg)
theorem zpb {n:Nat} {P:Program} {Γ:List (TypeId×TI)} (hT:TOK P Γ) (hm:P.follows .mixedOrders=true) {cf:FuncId} {fn cfn:Func} {cc:Code} {r:SV}
  (hcf:P.funcs[cf]? =some cfn) (hcb:cfn.body=some cc) (hcn:(cfn.name== "runtime.NumGoroutine")=false) {Keep:Nat->Prop} {ρ:zi} {w:World} (hk:∀b,Keep b->b < w.heap.size) (hρ:∀k,0<=k->ρ k=none) {RF:Ending->World->Prop}
  (hRF:∀e w',RF e w'↔∃v ρ',e=.returned v/\Stp (Own [] ρ) (Own [] ρ') ρ ρ' w w'/\zJ Keep [] ρ' w'/\G (fun b=>Keep b∨Own [] ρ' b) (Own [] ρ') ρ' w' r v):
  ∀(k:Nat) (c:Code) {σ1:St} {ρ1:zi} {a1:Act} {w1:World},Rel ⟨w,ρ,Keep,Own [] ρ,[]⟩ σ1 ρ1 a1 w1->vcDf n P Γ fn cfn cf cc r k c σ1->c.wp P (bodyPostD P fn RF) a1 w1
 | k+1,c,σ1,ρ1,a1,w1,hr1,h=>by
  obtain ⟨x,y,rfl,h⟩:=h;refine wp_seq (Code.wp_mono (fun e a2 w2 hq=>?_) (kH hT hm x hr1 h))
  cases e with
  | normal=>obtain ⟨σ,ρ',h1,h2⟩:=hq;exact zpb hT hm hcf hcb hcn hk hρ hRF k y h2 h1
  | ret=>
   obtain ⟨σ,ρ',h1,hr⟩:=hq;obtain ⟨s,hles,h8⟩:=yb hT h1;obtain ⟨v,hv,hgv⟩:=h8 hr;have hst:=hr.stp;show Leaves P fn a2.tmps RF a2.defers .returning w2;have hd0:a2.defers=[]:=hr.defers;rw [hd0];refine ⟨v,hv,(hRF _ _).2 ⟨v,ρ',rfl,?_,(qR hr.mem.kp fun _ _ h=>hr.mem.glc h),zxx hr.mem hles hgv⟩⟩;exact ⟨hst.os,hst.tape,hst.output,hst.size,fun b hb hn=>hst.block b hb fun h=>hn h,fun b hb=>absurd hb zT,hst.rho⟩
  | exit id=>obtain ⟨σ,ρ',h1,_⟩:=hq;exact h1.elim
  | _=>exact hq.elim
 | 0,c,σ1,ρ1,a1,w1,hr1,h=>by
  obtain ⟨id,o1,o2,rest,t,rfl,ho,hg,hd,h1⟩:=h;refine wp_seq (wp_region_list ?_);obtain ⟨σ',run,svs,s,md,h2,hgd,href,hdst,hrun⟩:=zfj hT hr1 h1
  have hr1':Rel ⟨w,ρ,Keep,Own [] ρ,[]⟩ σ' ρ1 a1 w1:=by
   rcases href with rfl | ⟨t,s0,s1,q2,q3,rfl⟩
   ·exact hr1
   ·exact hr1.refine q2 q3
  have hnt:σ'.nt=σ1.nt:=by rcases href with rfl | ⟨t,s0,s1,q2,q3,rfl⟩ <;> rfl
  have go2:∀{ρ2:zi} {a2:Act} {w2:World} {Q:Exit->Act->World->Prop},(∀a w,rest.wp P (bodyPostD P fn RF) a w->Q .normal a w)->Rel ⟨w,ρ,Keep,Own [] ρ,[]⟩ (σ'.app o1.dst s md) ρ2 a2 w2->
    wpList P #[o1,o2] Q [o2] a2 w2:=by
   intro ρ2 a2 w2 Q hQ hr2;obtain ⟨caps,hlt,hcle,hall,h3⟩:=h2;have hgt:=(hr2.regs t _ hlt).2;obtain ⟨cvs,hcv,hcg⟩:=hgt.fn_inv;have hw:Region.wanted o2 (yielded (#[o1,o2]:Array Oper) a2.tmps)=true:=hr2.wanted (all:=[o1,o2]) (by simp [qM,hg]);unfold wpList;rw [hw];simp only [if_true];refine .inl ?_;unfold Oper.wp
   have hex:(execOp a2.eval o2).run P w2=.ok (.defer ⟨.fn (.func cf) cvs.toArray,#[]⟩) w2:=by
    have hev:a2.eval (.tmp t)=.func (.func cf) #[] cvs.toArray:=hcv;simp only [execOp,ho,resolve,hev,Deferred.ofValue,Sem.run_bind,Sem.run_pure,Result.andThen_ok];simp
   rw [hex,Oper.upon_defer,hd];refine hQ _ _ ?_;show rest.wp P _ { a2 with defers:=_::a2.defers } w2;have hd0:a2.defers=[]:=hr2.defers;rw [hd0]
   -- the rest,with the call put off
   let E3:Env:=⟨w2,ρ2,Keep,Own (σ'.app o1.dst s md).M ρ2,[⟨.fn (.func cf) cvs.toArray,#[]⟩]⟩
   have hr3:Rel E3 ⟨(σ'.app o1.dst s md).L,(σ'.app o1.dst s md).M,(σ'.app o1.dst s md).nk,(σ'.app o1.dst s md).nt,(σ'.app o1.dst s md).nk⟩ ρ2 { a2 with defers:=[⟨.fn (.func cf) cvs.toArray,#[]⟩] } w2:=
    ⟨hr2.size,rfl,hr2.regs,hr2.mem,hr2.fresh,.refl,hr2.mem.kp,fun k v hv=>by
     rcases Nat.lt_or_ge k (σ'.app o1.dst s md).nk with h | h
     ·exact h
     ·have hv:ρ2 k=some v:=hv
      rw [hr2.fresh k h] at hv;cases hv⟩
   refine Code.wp_mono (fun e a3 w3 hq=>?_) (kH hT hm rest hr3 h3)
   have fin:∀σ3 ρ3,zsq n P Γ fn cfn cc caps r σ3->Rel E3 σ3 ρ3 a3 w3->Leaves P fn a3.tmps RF a3.defers .returning w3:=by
    intro σ3 ρ3 ⟨hbeq,h4⟩ hr3;have hlen:=Nat.eq_of_beq_eq_true hbeq;have hd3:a3.defers=[⟨.fn (.func cf) cvs.toArray,#[]⟩]:=hr3.defers;rw [hd3];have hρ3:∀k,σ3.M.length<=k->ρ3 k=none:=fun k hk=>hr3.fresh k oM
    have hcg3:Gs (fun b=>Keep b∨Own σ3.M ρ3 b) (Own σ3.M ρ3) ρ3 w3 caps cvs:=by
     refine ⟨hcg.1,fun j s v hs hv=>?_⟩;have hl:zxw s=true:=List.all_eq_true.1 hall s (List.mem_of_getElem? hs)
     cases s <;> try (simp [zxw] at hl)
     rename_i k off;obtain ⟨b,hb1,rfl⟩:=(hcg.2 j _ v hs hv).loc_inv;exact .loc _ _ _ (hr3.stp.rho _ _ hb1)
    have hent:=zah (nt:=cfn.ntmps) hr3.mem hρ3 hcg3 (Nat.le_of_ble_eq_true hcle);refine leaves_cons (by simp) (f:=cf) (args:=cvs.toArray) ?_ ?_
    ·simp only [invoke,callFunc,Sem.run_bind,Sem.run_pure,Result.andThen_ok,run_program,hcf,hcn,hcb,Option.isNone_some,Bool.false_eq_true,if_false];simp
    ·refine (callsD_of_wp (R:=fun e w4=>∃v0,e=.returned v0/\Leaves P fn a3.tmps RF [] .returning w4) hcf hcb ?_).mono ?_
     ·refine Code.wp_mono (fun e a4 w4 hq=>?_) (kH hT hm cc hent h4)
      have fin2:∀σ4 ρ4,(zbo σ4 Γ cfn.results.toList fun _=>zbo ⟨σ3.L.map yG,σ4.M,σ4.nk,σ3.nt,0⟩ Γ fn.results.toList fun s=>LE (zhy (zN σ4.M) n s) r)->
        Rel ⟨w3,ρ3,Keep,Own σ3.M ρ3,[]⟩ σ4 ρ4 a4 w4->a4.defers=[]/\∃v,(results cfn a4.tmps).run P w4=.ok v w4/\∃v0,Ending.returned v=.returned v0/\
         Leaves P fn a3.tmps RF [] .returning w4:=by
       intro σ4 ρ4 h5 hr4;obtain ⟨s0,h6,h7⟩:=yb hT h5;obtain ⟨v0,hv0,_⟩:=h7 hr4;refine ⟨hr4.defers,v0,hv0,v0,rfl,?_⟩;have hst:Stp (Own [] ρ) (Own σ4.M ρ4) ρ ρ4 w w4:=(hr2.stp.trans hr3.stp).trans hr4.stp
       have hfin:Rel ⟨w,ρ,Keep,Own [] ρ,a3.defers⟩ ⟨σ3.L.map yG,σ4.M,σ4.nk,σ3.nt,0⟩ ρ4 a3 w4:=by
        refine ⟨hr3.size,rfl,fun t s hl=>?_,hr4.mem,hr4.fresh,hst,hk,fun k v hv=>?_⟩
        ·rcases zfW σ3.L t s hl with rfl | ⟨k,o,rfl,h8⟩
         ·refine ⟨?_,.d _ _ (.junk _)⟩
          have:∃s,kM σ3.L t=some s:=by
           clear h5 h6 h7 h4 hr3 hr4 hent
           revert hl
           generalize σ3.L=L;intro hl
           induction L with
           | nil=>simp [kM] at hl
           | cons p L ih=>
            obtain ⟨d,s0⟩:=p
            by_cases hd:d=t
            ·exact ⟨s0,by rw [kw,if_pos hd]⟩
            ·rw [kw,if_neg hd];refine ih ?_
             have e:(((d,s0)::L).map yG)=(d,(yG (d,s0)).2)::L.map yG:=by
              simp only [List.map_cons];congr 1;unfold yG;dsimp only;split <;> rfl
             have hl':kM (((d,s0)::L).map yG) t=some .junk:=hl;rw [e,kw,if_neg hd] at hl';exact hl'
          obtain ⟨s,hs⟩:=this;exact (hr3.regs t s hs).1
         ·obtain ⟨h9,h10⟩:=hr3.regs t _ h8;refine ⟨h9,?_⟩;obtain ⟨b,hb1,hb2⟩:=h10.loc_inv;rw [hb2];exact .loc _ _ _ (hr4.stp.rho _ _ hb1)
        ·have hv:ρ k=some v:=hv;rw [hρ k (Nat.zero_le _)] at hv;cases hv
       obtain ⟨s,hles,h8⟩:=yb hT h6;obtain ⟨v,hv,hgv⟩:=h8 hfin;refine ⟨v,hv,(hRF _ _).2 ⟨v,ρ4,rfl,?_,(qR hfin.mem.kp fun _ _ h=>hfin.mem.glc h),?_⟩⟩
       ·exact ⟨hst.os,hst.tape,hst.output,hst.size,fun b hb hn=>hst.block b hb hn,fun b hb=>absurd hb zT,hst.rho⟩
       ·exact zxx hfin.mem hles hgv
      cases e with
      | normal=>obtain ⟨σ4,ρ4,h5,hr4⟩:=hq;exact fin2 σ4 ρ4 h5 hr4
      | ret=>obtain ⟨σ4,ρ4,h5,hr4⟩:=hq;exact fin2 σ4 ρ4 h5 hr4
      | exit id=>obtain ⟨σ4,ρ4,h5,_⟩:=hq;exact h5.elim
      | _=>exact hq.elim
     ·rintro e u' w4 ⟨rfl,v0,rfl,hL⟩
      exact hL
   cases e with
   | normal=>obtain ⟨σ3,ρ3,⟨σ',hs,h4⟩,hr3⟩:=hq;obtain ⟨ρ',hr'⟩:=hs _ _ _ _ hr3;exact fin σ' ρ' h4 hr'
   | ret=>obtain ⟨σ3,ρ3,⟨σ',hs,h4⟩,hr3⟩:=hq;obtain ⟨ρ',hr'⟩:=hs _ _ _ _ hr3;exact fin σ' ρ' h4 hr'
   | exit id=>obtain ⟨σ3,ρ3,h4,_⟩:=hq;exact h4.elim
   | _=>exact hq.elim
  unfold wpList;rw [hr1'.wanted hgd]
  rcases hrun with ⟨rfl,hst⟩ | ⟨rfl,rfl,rfl⟩
  ·simp only [if_true];refine .inl ((hst.does hr1').wp fun v w' ha=>?_);obtain ⟨ρ',hrel⟩:=hr1'.app (fun t e=>hnt ▸ hdst t e) ha;exact go2 (fun _ _ h=>h) hrel
  ·simp only [Bool.false_eq_true,if_false];obtain ⟨ρ',hrel⟩:=hr1'.app (fun t e=>hnt ▸ hdst t e) (uy hr1'.mem);exact go2 (fun _ _ h=>h) hrel
theorem zlu (n k:Nat) {P:Program} {Γ:List (TypeId×TI)} (hT:TOK P Γ) (hm:P.follows .mixedOrders=true) {f cf:FuncId} {fn cfn:Func} {c:Code}
  {args:List SV} {r:SV} {cc:Code} (hf:P.funcs[f]? =some fn) (hb:fn.body=some c) (hn:(fn.name== "runtime.NumGoroutine")=false)
  (hle:Nat.ble args.length fn.ntmps=true) (hcf:P.funcs[cf]? =some cfn) (hcb:cfn.body=some cc) (hcn:(cfn.name== "runtime.NumGoroutine")=false)
  (h:vcDf n P Γ fn cfn cf cc r k c ⟨jS 0 args,[],0,fn.ntmps,0⟩):zd P f args [] r []:=by
 refine ⟨⟨fn,hf,hn,by rw [hb];rfl⟩,fun Keep ρ w vs hk hmem hρ hgs=>?_⟩;have hRF:∃RF:Ending->World->Prop,∀e w',RF e w'↔∃v ρ',e=.returned v/\Stp (Own [] ρ) (Own [] ρ') ρ ρ' w w'/\zJ Keep [] ρ' w'/\G (fun b=>Keep b∨Own [] ρ' b) (Own [] ρ') ρ' w' r v:=⟨_,fun _ _=>Iff.rfl⟩;obtain ⟨RF,hRF⟩:=hRF;refine Calls.mono ?_ fun e w' h=>(hRF e w').1 h
 refine calls_of_wp_defers hf hb ?_;have hrel:=zah (nt:=fn.ntmps) hmem hρ hgs (Nat.le_of_ble_eq_true hle);exact zpb hT hm hcf hcb hcn hk hρ hRF k c hrel h
def yS(t:AF):AF:=⟨ofQ (t.d.v / yf t),ofQ (-t.b.v / yf t),ofQ (-t.c.v / yf t),ofQ (t.a.v / yf t),zBR,zBR⟩
def zmZ(t:AF):AF:={ yS t with e:=ofQ (-(y6 (yS t) t.e.v t.f.v)),f:=ofQ (-(y7 (yS t) t.e.v t.f.v)) }
def zgH(t:AF):AF×Int:=if ¬t.ok then (k7,5) else if yf t=0 then (k7,9) else if ¬(zmZ t).ok then (k7,5) else (zmZ t,0)
theorem zxy(t:AF):(zmZ t).nrm=zmZ t:=by
 unfold zmZ yS AF.nrm;simp only [zV]
theorem zfX(x y:Rat)(h:y≠0):jX (x / y)<=jX x+jX y:=by
 rw [← zod];have hy:y.num≠0:=fun k=>h (Rat.num_eq_zero.1 k)
 have h1:=za8 (n:=x.num*y.den) (Int.mul_ne_zero (zc5 x) hy);have h2:=kC x.num y.den;have h4:=kC x.den y.num;have a1:=kR x;have a2:=kR y;have a3:=kY x;have a4:=kY y;omega
theorem zss(t:AF){n:Nat}(ht:t.le n)(hn:1<=n):jX (yf t)<=4*n+1:=by
 obtain ⟨ha,hb,hc,hd,he,hf⟩:=ht;have l1:=zD t.a;have l2:=zD t.b;have l3:=zD t.c;have l4:=zD t.d;have m1:=jO t.a.v t.d.v;have m2:=jO t.b.v t.c.v;have m3:=zoc (t.a.v*t.d.v) (t.b.v*t.c.v);show jX (t.a.v*t.d.v - t.b.v*t.c.v)<=_;omega
theorem zst{t:AF}{n:Nat}(ht:t.le n)(hn:1<=n)(h0:yf t≠0):(yS t).le (5*n+1):=by
 have hd':=zss t ht hn;obtain ⟨ha,hb,hc,hd,he,hf⟩:=ht;have l1:=zD t.a;have l2:=zD t.b;have l3:=zD t.c;have l4:=zD t.d;have n2:=vK t.b.v;have n3:=vK t.c.v;have q1:=zfX t.d.v (yf t) h0;have q2:=zfX (-t.b.v) (yf t) h0;have q3:=zfX (-t.c.v) (yf t) h0;have q4:=zfX t.a.v (yf t) h0;refine ⟨?_,?_,?_,?_,?_,?_⟩
 ·show (ofQ _).len<=_;rw [zz];omega
 ·show (ofQ _).len<=_;rw [zz];omega
 ·show (ofQ _).len<=_;rw [zz];omega
 ·show (ofQ _).len<=_;rw [zz];omega
 ·show 0<=_;omega
 ·show 0<=_;omega
theorem zsu{t:AF}{n:Nat}(ht:t.le n)(hn:1<=n)(h0:yf t≠0):(zmZ t).le (100*n+100):=by
 have hi:=zst ht hn h0;obtain ⟨ha,hb,hc,hd,he,hf⟩:=ht;obtain ⟨ia,ib,ic,id,ie,if'⟩:=hi;have m1:=qF (n:=5*n+1) (yS t).a t.e (yS t).c t.f (yS t).e ia oM ic oM ie;have m2:=qF (n:=5*n+1) (yS t).b t.e (yS t).d t.f (yS t).f ib oM id oM if'
 refine ⟨?_,?_,?_,?_,?_,?_⟩
 ·show (yS t).a.len<=_;omega
 ·show (yS t).b.len<=_;omega
 ·show (yS t).c.len<=_;omega
 ·show (yS t).d.len<=_;omega
 ·show (ofQ (-(y6 (yS t) t.e.v t.f.v))).len<=_;rw [zz,vK];have:jX (y6 (yS t) t.e.v t.f.v)<=5*(5*n+1)+7:=m1.2;omega
 ·show (ofQ (-(y7 (yS t) t.e.v t.f.v))).len<=_;rw [zz,vK];have:jX (y7 (yS t) t.e.v t.f.v)<=5*(5*n+1)+7:=m2.2;omega
theorem a_by(x d:BR)(hx:x.len<=1000000)(hd:d.len<=1000000)(h0:d.v≠0):zd Tryz.prog 94 [.agg (brE x),.ptr (brE d)] [] (.agg (brE (ofQ (x.v / d.v)))) []:=by
 refine zc tok mix Tryz.func94 rfl rfl rfl ?_;refine zb.t (q_quo x d oM oM h0) ?_;exact .refl
theorem zxz(t:AF)(ht:t.le 100):zd Tryz.prog 56 [.agg (afE t)] [] (.tup [.agg (afE (zgH t).1),i64 (zgH t).2]) []:=by
 have bad:∀n,zgH t=(k7,n)->LE (.tup [.agg yL,i64 n]) (.tup [.agg (afE (zgH t).1),i64 (zgH t).2]):=fun n h=>by
  rw [h];exact zU zal .refl
 have hd':=zss t ht dC;refine zc tok mix Tryz.func56 rfl rfl rfl ?_;refine zb.t (zb7 t (ht.up dC)) ?_;refine Br.mk (fun h=>bad 5 (if_pos h)) (fun h1=>?_);refine zb.t (zha t (ht.up dC)) ?_;refine Dr.k ?_;refine zb.t (ye 0 dC) ?_;refine zb.t (zfv (ofQ (yf t)) (ofQ ((0:Int):Rat)) (by rw [zz];omega) (by decide +kernel)) ?_;rw [zV,zV];refine Br.mk (fun h=>bad 9 ((if_neg h1).trans (if_pos (qG.1 h)))) (fun h=>?_);have h0:yf t≠0:=fun k=>h (qG.2 k)
 have hi:=zst ht dC h0;have hA:=zsu ht dC h0;have ht':=ht;obtain ⟨ha,hb,hc,hd,he,hf⟩:=ht;have hdv:(ofQ (yf t)).v≠0:=by rw [zV];exact h0
 have lb:=zD t.b;have lc:=zD t.c;have nb:=vK t.b.v;have nc:=vK t.c.v;refine Dr.k ?_;refine zb.t (a_by t.d (ofQ (yf t)) oM (by rw [zz];omega) hdv) ?_;refine zb.t (zrN t.b oM) ?_;refine zb.t (a_by (ofQ (-t.b.v)) (ofQ (yf t)) (by rw [zz];omega) (by rw [zz];omega) hdv) ?_;refine zb.t (zrN t.c oM) ?_;refine zb.t (a_by (ofQ (-t.c.v)) (ofQ (yf t)) (by rw [zz];omega) (by rw [zz];omega) hdv) ?_;refine zb.t (a_by t.a (ofQ (yf t)) oM (by rw [zz];omega) hdv) ?_;rw [zV,zV,zV]
 have h24:LEs (brE (yS t).a++(brE (yS t).b++(brE (yS t).c++(brE (yS t).d++(z4++z4))))) (afE (yS t)):=
  LEs.append .refl (LEs.append .refl (LEs.append .refl (LEs.append .refl (LEs.append jw jw))))
 have mX:=qF (n:=501) (yS t).a t.e (yS t).c t.f (yS t).e hi.1 oM hi.2.2.1 oM hi.2.2.2.2.1;have mY:=qF (n:=501) (yS t).b t.e (yS t).d t.f (yS t).f hi.2.1 oM hi.2.2.2.1 oM hi.2.2.2.2.2;have mX2:jX (y6 (yS t) t.e.v t.f.v)<=5*501+7:=mX.2;have mY2:jX (y7 (yS t) t.e.v t.f.v)<=5*501+7:=mY.2;refine zb.t ((zhN (yS t) t.e t.f (hi.up dC) oM oM).args (.cons (qK h24) (.cons .refl (.cons .refl .nil)))) ?_;refine Dr.k ?_;refine zb.t (zrN (ofQ (y6 (yS t) t.e.v t.f.v)) (by rw [zz];omega)) ?_;refine zb.t (zrN (ofQ (y7 (yS t) t.e.v t.f.v)) (by rw [zz];omega)) ?_;rw [zV,zV]
 refine zb.t (zb7 (zmZ t) (hA.up dC)) ?_;refine Br.mk (fun h=>bad 5 ((if_neg h1).trans ((if_neg h0).trans (if_pos h)))) (fun h=>?_);refine zb.t (zhb (zmZ t) (hA.up dC)) ?_;rw [zxy,show zgH t=(zmZ t,0) from (if_neg h1).trans ((if_neg h0).trans (if_neg h))];exact zU .refl .refl
structure Pix where
 r:Int
 g:Int
 b:Int
 a:Int
 deriving DecidableEq
def zdt(p:Pix):List SV:=[u8 p.r,u8 p.g,u8 p.b,u8 p.a]
structure Img where
 w:Int
 h:Int
 px:List Pix
 deriving DecidableEq
def zjB(m:Img):List SV:=[i64 m.w,i64 m.h,.sl zdt m.px]
def zeV(p:Pix):Prop:=p.r<=p.a/\p.g<=p.a/\p.b<=p.a
instance (p:Pix):Decidable (zeV p):=inferInstanceAs (Decidable (_/\_))
def zeu(m:Img):Prop:=(1<=m.w/\m.w<=4096)/\(1<=m.h/\m.h<=4096)/\m.w*m.h<=65536/\(m.px.length:Int)=m.w*m.h/\∀p∈m.px,zeV p
instance (m:Img):Decidable (zeu m):=inferInstanceAs (Decidable (_/\_))
theorem zfY(x r g b a:Int):zd Tryz.prog 336 [u8 x,.ptr [u8 r,u8 g,u8 b,u8 a]] [] (u8 (min x a)) []:=by
 refine zc tok mix Tryz.func336 rfl rfl rfl ?_;exact zj rfl
theorem zBY(p:Pix)(r g b a:Int):zd Tryz.prog 335 [.agg (zdt p),.fn 336 [.ptr [u8 r,u8 g,u8 b,u8 a]]] [] (.agg [u8 (min p.r a),u8 (min p.g a),u8 (min p.b a),u8 (min p.a a)]) []:=by
 refine zc tok mix Tryz.func335 rfl rfl rfl ?_;refine Dr.k ?_;refine zb.t (zfY _ r g b a) ?_;refine zb.t (zfY _ r g b a) ?_;refine zb.t (zfY _ r g b a) ?_;refine zb.t (zfY _ r g b a) ?_;exact .refl
theorem zxA(p:Pix):zd Tryz.prog 303 [.agg (zdt p)] [] (.agg [u8 (min p.r p.a),u8 (min p.g p.a),u8 (min p.b p.a),u8 (min p.a p.a)]) []:=by
 refine zc tok mix Tryz.func303 rfl rfl rfl ?_;refine zb.t (zBY p p.r p.g p.b p.a) ?_;exact .refl
theorem zxB(p:Pix):zd Tryz.prog 267 [.agg (zdt p)] [] (pr (zeV p)) []:=by
 refine zc tok mix Tryz.func267 rfl rfl rfl ?_;refine Dr.k ?_;refine zb.t (zxA p) ?_;refine zF (p:=min p.r p.a=p.r/\min p.g p.a=p.g/\min p.b p.a=p.b/\min p.a p.a=p.a/\True) ?_;constructor
 ·rintro ⟨h1,h2,h3,_⟩
  exact ⟨oM,oM,oM⟩
 ·rintro ⟨h1,h2,h3⟩
  exact ⟨oM,oM,oM,oM,trivial⟩
theorem zuk(p:Pix):zd Tryz.prog 266 [.agg (zdt p)] [] (pr (¬zeV p)) []:=by
 refine zc tok mix Tryz.func266 rfl rfl rfl ?_;refine zb.t (zxB p) ?_;exact zF Iff.rfl
def zeW(xs:List Pix):Int:=match xs.findIdx? (fun p=>decide (¬zeV p)) with
 | some i=>i
 | none=> -1
theorem zul{xs:List Pix}{i:Nat}{p:Pix}(h:∀(j:Nat) q,j < i->xs[j]? =some q->zeV q)(hi:xs[i]? =some p)(hp:¬zeV p):zeW xs=i:=by
 have:xs.findIdx? (fun p=>decide (¬zeV p))=some i:=by
  rw [List.findIdx?_eq_some_iff_getElem];obtain ⟨hl,he⟩:=List.getElem?_eq_some_iff.1 hi;refine ⟨hl,by simp [he,hp],fun j hj=>?_⟩;have:=h j xs[j] hj (List.getElem?_eq_getElem _);simp [this]
 simp only [zeW,this]
theorem zhn{xs:List Pix}(h:∀p∈xs,zeV p):zeW xs= -1:=by
 have:xs.findIdx? (fun p=>decide (¬zeV p))=none:=by
  rw [List.findIdx?_eq_none_iff];intro p hp;simp [h p hp]
 simp only [zeW,this]
theorem zkl{xs:List Pix}:0<=zeW xs↔¬∀p∈xs,zeV p:=by
 constructor
 ·intro h hall;rw [zhn hall] at h;omega
 ·intro h;unfold zeW
  split
  ·omega
  ·rename_i hn;rw [List.findIdx?_eq_none_iff] at hn;exact absurd (fun p hp=>by simpa using hn p hp) h
theorem zzO(xs:List Pix)(hl:xs.length<=9223372036854775807):zd Tryz.prog 302 [.sl zdt xs,.fn 266 []] [] (i64 (zeW xs)) []:=by
 refine zc tok mix Tryz.func302 rfl rfl rfl ?_;intro hl0;refine ⟨Int,fun i=>⟨[(8,i64 i),(7,i64 xs.length),(0,.sl zdt xs),(1,.fn 266 [])],[],0,19,0⟩,fun i=>0<=i/\i<=xs.length/\∀(j:Nat) q,(j:Int) < i->xs[j]? =some q->zeV q,fun i=>((xs.length:Int) - i).toNat,0,?_,?_,?_⟩
 ·exact ⟨oM,oM,fun j q hj=>by omega⟩
 ·exact zf []
 rintro i ⟨h1,h2,h3⟩
 refine Br.mk (fun h4=>?_) (fun h4=>?_)
 ·refine Ob.o ?_;intro x hx;refine zb.t (zuk x) ?_;refine Br.mk (fun h5=>?_) (fun h5=>?_)
  ·refine zj ?_;rw [zul (i:=i.toNat) (fun j q hj=>h3 j q oM) hx h5];omega
  ·refine Ar.o ?_;refine ⟨i+1,⟨oM,oM,fun j q hj hq=>?_⟩,zf [],by dsimp only;omega⟩
   by_cases e:j=i.toNat
   ·subst e;rw [hx] at hq;cases hq;exact Decidable.not_not.1 h5
   ·exact h3 j q oM hq
 ·refine zj (zhn fun p hp=>?_).symm;obtain ⟨j,hj,he⟩:=List.getElem_of_mem hp;exact h3 j p oM (by rw [← he];exact List.getElem?_eq_getElem hj)
theorem zqU(xs:List Pix)(hl:xs.length<=9223372036854775807):zd Tryz.prog 265 [.sl zdt xs,.fn 266 []] [] (pr (¬∀p∈xs,zeV p)) []:=by
 refine zc tok mix Tryz.func265 rfl rfl rfl ?_;refine zb.t (zzO xs hl) ?_;exact zF zkl
theorem zAH(n:Int):zd Tryz.prog 264 [i64 n] [] (pr (1<=n/\n<=4096)) []:=by
 refine zc tok mix Tryz.func264 rfl rfl rfl ?_;refine Br.mk (fun h=>?_) (fun h=>?_)
 ·exact zF oM
 ·exact ze oM
theorem zxC{a b A B:Int}(h1:0<=a)(h2:a<=A)(h3:0<=b)(h4:b<=B):0<=a*b/\a*b<=A*B:=
 ⟨Int.mul_nonneg h1 h3,Int.mul_le_mul h2 h4 h3 oM⟩
theorem zlv(m:Img)(hl:m.px.length<=9223372036854775807):zd Tryz.prog 222 [.agg (zjB m)] [] (pr (zeu m)) []:=by
 refine zc tok mix Tryz.func222 rfl rfl rfl ?_;refine zb.t (zAH m.w) ?_;refine Br.mk (fun h1=>?_) (fun h1=>?_)
 ·exact ze (fun h=>h1 h.1)
 have h1:=Decidable.not_not.1 h1;refine zb.t (zAH m.h) ?_;refine Br.mk (fun h2=>?_) (fun h2=>?_)
 ·exact ze (fun h=>h2 h.2.1)
 have h2:=Decidable.not_not.1 h2;have hm:=zxC (show 0<=m.w by omega) h1.2 (show 0<=m.h by omega) h2.2;refine Ar.o ?_;refine Br.mk (fun h3=>?_) (fun h3=>?_)
 ·exact ze (fun h=>by have:=h.2.2.1;omega)
 intro hl0;refine Ar.o ?_;refine Br.mk (fun h4=>?_) (fun h4=>?_)
 ·exact ze (fun h=>h4 h.2.2.2.1)
 refine zb.t (zqU m.px hl) ?_;refine zF ?_;exact ⟨fun h=>⟨h1,h2,oM,Decidable.not_not.1 h4,Decidable.not_not.1 h⟩,fun h h'=>h' h.2.2.2.2⟩
end Go.Gs
