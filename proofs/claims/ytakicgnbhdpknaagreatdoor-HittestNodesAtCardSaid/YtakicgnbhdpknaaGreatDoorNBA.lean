/- An iterator: what is left to be shown is enough. -/
import Derived.Test.YtakicgnbhdpknaaGreatDoorNAZ
set_option maxRecDepth 100000
set_option maxHeartbeats 8000000
set_option linter.all false
namespace Go.Gs
open Proofs.Tryz
section it
variable{P:Program}{Γ:LS}{α:Type}{enc:α->LR}{xs:List α}{l:Nat}{J:Nat->LI->LI->World->Prop}{Jx:LI->LI->World->Prop}
def zkI(J:Nat->LI->LI->World->Prop)(Jx:LI->LI->World->Prop):Prop:=
 ∀i b SA SB SB' W W',Jt J Jx i b SA SB W->Mv SB SB' W W'->(∀b,SB' b->¬SA b/\b<W'.heap.size)->Jt J Jx i b SA SB' W'
def zhI(P:Program)(l:Nat)(enc:α->LR)(xs:List α)(J:Nat->LI->LI->World->Prop)(Jx:LI->LI->World->Prop):Prop:=
 ∀i x SA SB W args,xs[i]?=some x->J i SA SB W->(∀b,SA b->b<W.heap.size)->(∀b,SB b->¬SA b/\b<W.heap.size)->(∀S,Ds S W (enc x) args)->
  YieldAt Fence.wide 0 P l (List.toArray args) W λe W'=>∃SA':LI,Mv SA SA' W W'/\(∀b,SA' b->¬SB b/\b<W'.heap.size)/\
   ((e=.returned (.bool true)/\J (i+1) SA' SB W')∨(e=.returned (.bool false)/\Jx SA' SB W'))
def zyp{L:LP}{o:Oper}(h:isY L o=true):∃c t l' a b,o.op=.call c/\c.callee=.value (.tmp t)/\kK L t=some (.val (.func (.yield l') a b)):=by
 unfold isY at h
 split at h
 ·rename_i c hc
  split at h
  ·rename_i t ht
   split at h
   ·rename_i l' a b hl;exact⟨c,t,l',a,b,hc,ht,hl⟩
   cases h
  cases h
 cases h
def zvv{S S' Pm:LI}{ρ:zh}{w w':World}{svs:LR}{vs:LA}(hs:uw.scalars svs=true)(h:Gs S Pm ρ w svs vs):Ds S' w' svs vs:=
 ⟨h.1,λj s v h1 h2=>vJ (uQ hs j s h1) (h.2 j s v h1 h2)⟩
def yj.round{F:Fence}(h:yj F){n:Nat}{f:FuncId}{tmps:Array Value}{assign body:Code}{w:World}{R:Ending->World->Prop}(hr:RoundIn Fence.wide 0 P l f tmps assign body w R):RoundIn F n P l f tmps assign body w R:=
 ⟨h.fn f,λc cs _=>let ⟨e,w',r,s⟩:=hr.2 c cs (room_wide _);⟨e,w',r,h.comes (comesIn_wide.1 s)⟩⟩
def zmO{F:Fence}(hF:yj F){n:Nat}(hT:TOK P Γ)(hS:zkI J Jx)(hY:zhI P l enc xs J Jx){all:List Oper}{Q:Ex->St->Nat->Bool->Prop}:∀{r:List Oper} {j:Nat} {E:Env} {SA SB:LI} {σ:St} {i:Nat} {b:Bool} {ρ:zh} {a:Act} {w:World},yX r=true->RI J Jx E SA SB σ i b ρ a w->
   zdT P Γ l enc xs all r j σ i b (Q .normal)->wpListIn F n P all.toArray (zqq J Jx Q) r a w
 |[],j,E,SA,SB,σ,i,b,ρ,a,w,_,hr,h=>⟨E,SA,SB,σ,i,b,ρ,h,hr⟩
 |o::r,j,E,SA,SB,σ,i,b,ρ,a,w,hd,hr,h=>by
  have hd':zqk o=true/\yX r=true:=by unfold yX at hd ⊢;rw[Yw,XC]at hd;exact hd
  simp only[zdT]at h
  split at h
  ·-- an operation like any other
   obtain⟨σ',run,svs,s,md,h1,hg,href,hdst,hrun⟩:=zgd hT hr.rel h;have h1:zdT P Γ l enc xs all r (j+1) (σ'.app o.dst s md) i b (Q .normal):=h1
   have hr':Rel E σ' ρ a w:=by
    rcases href with rfl|⟨t,s0,s1,h2,h3,rfl⟩
    ·exact hr.rel
    exact hr.rel.refine h2 h3
   have hnt:σ'.nt=σ.nt:=by rcases href with rfl|⟨t,s0,s1,h2,h3,rfl⟩ <;> rfl
   have hM:σ'.M=σ.M:=by rcases href with rfl|⟨t,s0,s1,h2,h3,rfl⟩ <;> rfl
   have hri:RI J Jx E SA SB σ' i b ρ a w:=⟨hr',hr.ds,hr.sa,λb hb=>hr.sb b (hM ▸ hb),hr.dj,hr.lt,hr.j⟩;have hcut:=hr'.cut;unfold wpListIn;rw[hr'.wanted hg]
   obtain⟨rfl,hst⟩|⟨rfl,rfl,rfl⟩:=hrun
   ·simp only[if_true];refine hF.op (zfH hd'.1) ((hst.does hcut).wp λv w' ha=>?_);obtain⟨ρ',hrel⟩:=hcut.app (λt e=>hnt ▸ hdst t e) ha;exact zmO hF hT hS hY hd'.2 (hri.next hS hrel) h1
   simp only[Ky,if_false];obtain⟨ρ',hrel⟩:=hcut.app (λt e=>hnt ▸ hdst t e) (uR hcut.mem);exact⟨λf _=>hF.fn f,zmO hF hT hS hY hd'.2 (hri.next hS hrel) h1⟩
  -- the call of yield
  rename_i hy;obtain⟨c,t,l',x0,y0,ho,hc,hlk⟩:=zyp hy;obtain⟨σ',run,hg,hr',⟨hM,hnt⟩,hrun⟩:=zqp h hr.rel;have hri:RI J Jx E SA SB σ' i b ρ a w:=⟨hr',hr.ds,hr.sa,λb hb=>hr.sb b (hM ▸ hb),hr.dj,hr.lt,hr.j⟩;unfold wpListIn;rw[hr'.wanted hg]
  obtain⟨rfl,hgo⟩|⟨rfl,hskip⟩:=hrun
  ·simp only[if_true];unfold zyn at hgo;rw[ho]at hgo;dsimp only at hgo
   cases b with
   |true=>exact hgo.elim
   |false=>
    dsimp only at hgo;obtain⟨svs,hgo,hev⟩:=zgb hgo;obtain⟨hyl,x,hx,hsc,hle,hpM,hgo⟩:=hgo;have hyl:kK σ'.L t=some (.val (.func (.yield l) #[] #[])):=by unfold yIs at hyl;rw[hc]at hyl;exact hyl
    have hval:=(hr'.regs t _ hyl).2.val_inv;obtain⟨hdst,hgo⟩:=qy hgo;have hgs:=hev (a:=a) (λt s _ hl=>(hr'.regs t s hl).2);have hargs:∀S,Ds S w (enc x) (c.args.toList.map a.eval):=λS=>zvv hsc (hle.gs hgs)
    obtain⟨fn,tmps,assign,body,hrun,hR⟩:=hY i x SA SB w _ hx hr.j hr.lt hr.dj hargs;refine⟨λf _=>hF.fn f,?_⟩;rw[zvu ho hc hval rfl hrun];refine⟨hF.need,(hF.round hR).mono ?_⟩
    rintro e W' ⟨SA',hmv,hdis,hres⟩
    have fin:∀(v:Bool) (i':Nat) (b':Bool),Jt J Jx i' b' SA' SB W'->zdT P Γ l enc xs all r (j+1) (σ'.yput o.dst (.val (.bool v))) i' b' (Q .normal)->
      wpListIn F n P all.toArray (zqq J Jx Q) r (a.put o.dst (.bool v)) W':=by
     intro v i' b' hj hvc
     have hno:∀b,b<w.heap.size->¬(E.Keep b∨Own σ'.M ρ b)->¬((E.Keep b∨SA' b)∨Own σ'.M ρ b)/\W'.heap[b]?=w.heap[b]? :=λb hb hn=>
      ⟨λhk=>hk.elim (λhk=>hk.elim (λhk=>hn (.inl hk)) λhs=>(hmv.own b hs).elim (λh=>hn (.inl (hr.sa b h))) λhge=>by omega) λho=>hn (.inr ho),hmv.block b hb λhs=>hn (.inl (hr.sa b hs))⟩
     have hcl:∀t s,kK (zcN σ'.L) t=some s->t<σ'.nt/\G (λb=>(E.Keep b∨SA' b)∨Own σ'.M ρ b) (Own σ'.M ρ) ρ W' s (a.tmps.getD t undef):=λt s hlk=>by
      obtain⟨s',hl'⟩:=zvt hlk;refine⟨(hr'.regs t s' hl').1,?_⟩
      rcases zfI hlk with rfl|⟨h1,h2⟩
      ·exact .d _ _ (.junk _)
      exact(hr'.regs t s h1).2.pf hmv.size hno h2
     have hmem:zL (λb=>E.Keep b∨SA' b) σ'.M ρ W':=
      (hr'.mem.few (K':=λb=>E.Keep b∨SA b) hpM λb hb=>hb.elim id (hr.sa b)).other hpM hmv λb hb=>⟨λho=>(hdis b hb).1 (hri.sb b ho),(hdis b hb).2⟩
     have hrel:Rel ⟨W',E.ρ0,λb=>E.Keep b∨SA' b,Own σ'.M ρ,E.ds⟩ (σ'.yput o.dst (.val (.bool v))) ρ (a.put o.dst (.bool v)) W':=by
      refine⟨?_,?_,λt s hlk=>?_,hmem,hr'.fresh,⟨rfl,rfl,.refl _,Xk _,λ_ _ _=>rfl,λ_ h=>.inl h,hr'.stp.rho⟩,hmem.kp,hr'.low⟩
      ·have:=hr'.size
       cases hd0:o.dst <;> simpa[Act.put,St.yput] using this
      ·have:=hr'.defers
       cases hd0:o.dst <;> simpa[Act.put] using this
      cases hd0:o.dst with
      |none=>
       rw[hd0]at hlk;exact hcl t s hlk
      |some d=>
       rw[hd0]at hlk;have hlk:kK ((d,.val (.bool v))::zcN σ'.L) t=some s:=hlk;rw[kq]at hlk;have hdlt:d<a.tmps.size:=by rw[hr'.size];exact hdst d hd0
       by_cases e:d=t
       ·rw[Xe e]at hlk
        cases hlk
        refine⟨e ▸ hdst d hd0,?_⟩;rw[zgc hdlt,Xe e];exact .d _ _ (.val _)
       rw[Xc e]at hlk;rw[zgc hdlt,Xc e];exact hcl t s hlk
     refine zmO hF hT hS hY hd'.2 ⟨hrel,hr.ds,λb hb=>.inr hb,hri.sb,λb hb=>⟨λhs=>(hdis b hs).1 hb,Xw (hr.dj b hb).2 hmv.size⟩,λb hb=>(hdis b hb).2,hj⟩ hvc
    obtain⟨rfl,hj⟩|⟨rfl,hj⟩:=hres
    ·exact fin true (i+1) false hj hgo.yes
    exact fin false i true hj hgo.no
  simp only[Ky,if_false];unfold zaq at hskip;obtain⟨hdst,hskip⟩:=qy hskip;have hcut:=hr'.cut;obtain⟨ρ',hrel⟩:=hcut.app hdst (uR hcut.mem);exact⟨λf _=>hF.fn f,zmO hF hT hS hY hd'.2 (hri.next hS hrel) hskip⟩
def u0{F:Fence}(hF:yj F){n:Nat}(hT:TOK P Γ)(hm:P.follows .mixedOrders=true)(hS:zkI J Jx)(hY:zhI P l enc xs J Jx):
  ∀(c:Code) {E:Env} {SA SB:LI} {σ:St} {i:Nat} {b:Bool} {Q:Ex->St->Nat->Bool->Prop} {ρ:zh} {a:Act} {w:World},
   RI J Jx E SA SB σ i b ρ a w->zyo P Γ l enc xs c σ i b Q->c.wpIn F n P (zqq J Jx Q) a w
 |.skip,E,SA,SB,σ,i,b,Q,ρ,a,w,hr,h=>wpIn_skip ⟨E,SA,SB,σ,i,b,ρ,h,hr⟩
 |.region id ops draw,E,SA,SB,σ,i,b,Q,ρ,a,w,hr,h=>by
  cases draw with
  |false=>
   have h:(match yX ops.toList with|false=>False|true=>zdT P Γ l enc xs ops.toList ops.toList 0 σ i b (Q .normal)):=h
   split at h
   ·exact h.elim
   rename_i hd;refine wpIn_region_list ?_;have:=zmO (n:=n) hF hT hS hY hd hr h
   simpa using this
  |true=>
   have h:(match yX ops.toList with|false=>False|true=>YDr (jI P Γ (.region id ops true) σ (λe σ=>match e with|.normal=>Q .normal σ i b|_=>False)) (λm=>Ob (uv (yX ops.toList) (uv (zmM ops.toList m) (vi (ops.toList.take m)))=true)
     (u4 P Γ true (ops.toList.take m) (ops.toList.take m) 0 σ λσ=>zdT P Γ l enc xs ops.toList (ops.toList.drop m) m σ i b (Q .normal)))):=h
   split at h
   ·exact h.elim
   rename_i hd0
   rcases h with h|⟨m,h⟩
   ·refine wpIn_mono (zmG hF hT hm hd0 hr.rel.cut h) (λe a' w' hq=>?_)
    cases e with
    |normal=>obtain⟨σ',ρ',hq,hr'⟩:=hq;exact⟨_,SA,_,σ',i,b,ρ',hq,hr.next hS hr'⟩
    |exit id=>obtain⟨σ',ρ',hq,hr'⟩:=hq;exact hq.elim
    |ret=>obtain⟨σ',ρ',hq,hr'⟩:=hq;exact hq.elim
    |_=>exact hq.elim
   obtain⟨hc,h⟩:=h;obtain⟨hd,hc⟩:=kj hc;obtain⟨ht,hord⟩:=kj hc;refine zqo hF hm hT hd ht hr.rel.cut hord h λσ' ρ' a' w' hk hr'=>?_
   have hd':yX (ops.toList.drop m)=true:=XQ.2 λo ho=>XQ.1 hd o (KP ho)
   have:=zmO (n:=n) hF hT hS hY hd' (hr.next hS hr') hk
   simpa using this
 |.seq x y,E,SA,SB,σ,i,b,Q,ρ,a,w,hr,h=>by
  refine wpIn_seq (wpIn_mono (u0 hF hT hm hS hY x hr h) (λe a' w' hq=>?_))
  cases e with
  |normal=>obtain⟨E',SA',SB',σ',i',b',ρ',h',hr'⟩:=hq;exact u0 hF hT hm hS hY y hr' h'
  |exit id=>exact hq
  |ret=>exact hq
  |_=>exact hq.elim
 |.cond c x y,E,SA,SB,σ,i,b,Q,ρ,a,w,hr,h=>by
  obtain⟨s,h,hs⟩:=zcy h;have hg:=hs (a:=a) (λt s _ hl=>(hr.rel.regs t s hl).2)
  split at h
  ·exact wpIn_cond_true hg.val_inv (u0 hF hT hm hS hY x hr h)
  ·exact wpIn_cond_false hg.val_inv (u0 hF hT hm hS hY y hr h)
  ·rename_i p ip
   by_cases hp:p
   ·exact wpIn_cond_true (by rw[hg.pr_inv];simp[hp]) (u0 hF hT hm hS hY x hr (h.yes hp))
   exact wpIn_cond_false (by rw[hg.pr_inv];simp[hp]) (u0 hF hT hm hS hY y hr (h.no hp))
  ·obtain⟨b',hb⟩:=hg.anyb_inv
   cases b' with
   |true=>exact wpIn_cond_true hb (u0 hF hT hm hS hY x hr h.yes)
   |false=>exact wpIn_cond_false hb (u0 hF hT hm hS hY y hr h.no)
  exact h.elim
 |.block id c,E,SA,SB,σ,i,b,Q,ρ,a,w,hr,h=>by
  refine wpIn_block (wpIn_mono (u0 hF hT hm hS hY c hr h) (λe a' w' hq=>?_))
  cases e with
  |normal=>exact hq
  |exit j=>
   obtain⟨E',SA',SB',σ',i',b',ρ',h',hr'⟩:=hq;dsimp only at h';show(if j=id then zqq J Jx Q .normal a' w' else zqq J Jx Q (.exit j) a' w')
   split at h'
   ·rename_i hb;rw[Xe (Xj hb)];exact⟨E',SA',SB',σ',i',b',ρ',h',hr'⟩
   rename_i hb;rw[Xc (KF hb)];exact⟨E',SA',SB',σ',i',b',ρ',h',hr'⟩
  |ret=>exact hq
  |_=>exact hq.elim
 |.loop c,E,SA,SB,σ,i,b,Q,ρ,a,w,hr,h=>by
  obtain⟨ι,S,T,I,μ,x0,h0,hsub,rfl,rfl,hround⟩:=h;obtain⟨E0,SB0,ρ0,hr0⟩:=hr.sub hS hsub;refine zax (λn a w=>∃x E SA SB ρ,I x/\μ x=n/\RI J Jx E SA SB (S x) (T x) false ρ a w) (μ x0) ⟨x0,E0,SA,SB0,ρ0,h0,rfl,hr0⟩ λn a w hI=>?_
  obtain⟨x,E1,SA1,SB1,ρ1,h1,rfl,hr1⟩:=hI;refine wpIn_mono (u0 hF hT hm hS hY c hr1 (hround x h1)) (λe a' w' hq=>?_)
  cases e with
  |normal=>
   obtain⟨E2,SA2,SB2,σ',i',b',ρ',⟨x',h2,hs2,rfl,rfl,hlt⟩,hr'⟩:=hq;obtain⟨E3,SB3,ρ3,hr3⟩:=hr'.sub hS hs2;exact⟨μ x',hlt,x',E3,SA2,SB3,ρ3,h2,rfl,hr3⟩
  |exit id=>exact hq
  |ret=>exact hq
  |_=>exact hq.elim
 |.exit id,E,SA,SB,σ,i,b,Q,ρ,a,w,hr,h=>wpIn_exit ⟨E,SA,SB,σ,i,b,ρ,h,hr⟩
 |.ret,E,SA,SB,σ,i,b,Q,ρ,a,w,hr,h=>wpIn_ret ⟨E,SA,SB,σ,i,b,ρ,h,hr⟩
 |.rangeFunc _ _ _ _,_,_,_,_,_,_,_,_,_,_,_,h=>by cases h
 |.scope _,_,_,_,_,_,_,_,_,_,_,_,h=>by cases h
 |.label _,E,SA,SB,σ,i,b,Q,ρ,a,w,hr,h=>wpIn_label ⟨E,SA,SB,σ,i,b,ρ,h,hr⟩
 |.goto _,_,_,_,_,_,_,_,_,_,_,_,h=>by cases h
 |.refuse _,_,_,_,_,_,_,_,_,_,_,_,h=>by cases h
def endI(n:Nat)(e:Ex)(_:St)(i:Nat)(b:Bool):Prop:=
 match e with
 |.exit _=>False
 |_=>b=true∨i=n
def zi5(hT:TOK P Γ)(hm:P.follows .mixedOrders=true){f:FuncId}{fn:Func}{c:Code}{caps:LR}(hf:P.funcs[f]?=some fn)(hb:fn.body=some c)(hn:(fn.name== "runtime.NumGoroutine")=false)
  (hle:Nat.ble (caps.length+1) fn.ntmps=true) (hres:fn.results=#[]) (h:∀l:Nat,zyo P Γ l enc xs c ⟨jJ 0 (.val (.func (.yield l) #[] #[])::caps),[],0,fn.ntmps,0⟩ 0 false (endI xs.length)):zfb P f caps enc xs:=by
 refine⟨⟨fn,hf,hn,by rw[hb];rfl⟩,λSA w vs l J Jx hlt hgl hcaps hSJ hSX hY h0=>?_⟩;refine callsIn_of_wp_marks hf hb trivial ?_ rfl
 have hrel:=vK (Keep:=SA) (M:=[]) (ρ:=λ_=>none) (w:=w) (args:=.val (.func (.yield l) #[] #[])::caps) (vs:=.func (.yield l) #[] #[]::vs) (nt:=fn.ntmps) (qt hlt hgl) (λ_ _=>rfl)
  ⟨by simp[hcaps.1],λj s v hs hv=>by
   cases j with
   |zero=>cases hs;cases hv;exact .d _ _ (.val _)
   |succ j=>exact .d _ _ ((hcaps.2 j s v (by simpa using hs) (by simpa using hv)).less λb hb=>hb.resolve_right zP)⟩ (by simpa using Xz hle)
 have hri:RI J Jx ⟨w,λ_=>none,SA,Own [] (λ_=>none),[]⟩ SA (λ_=>False) _ 0 false _ _ w:=⟨hrel,rfl,λ_ h=>h,λ_ hb=>absurd hb zP,λ_ h=>h.elim,hlt,h0⟩
 have hS:zkI J Jx:=λi b SA SB SB' W W' hj hmv hd=>by
  cases b with
  |false=>exact hSJ i SA SB SB' W W' hj hmv hd
  |true=>exact hSX SA SB SB' W W' hj hmv hd
 refine wpIn_mono (u0 yj.wide hT hm hS (λi x SA SB W args hx hj hA hB ha=>hY i x SA SB W args hx hj hA hB (ha _)) c hri (h l)) (λe a' w' hq=>?_)
 have fin:∀{E SA SB σ i b ρ},RI J Jx E SA SB σ i b ρ a' w'->(b=true∨i=xs.length)->LeavesInM Fence.wide 0 P fn a'.tmps (λe W'=>(∃v,e=.returned v)/\∃SA' SB',J xs.length SA' SB' W'∨Jx SA' SB' W') a'.defers .returning w':=by
  intro E SA SB σ i b ρ hr hd;rw[hr.rel.defers,hr.ds];refine⟨.tuple #[],by unfold results;rw[hres];simp,⟨_,rfl⟩,SA,SB,?_⟩;have hj:=hr.j
  cases b with
  |true=>exact .inr hj
  |false=>
   obtain rfl:=hd.resolve_left sI;exact .inl hj
 cases e with
 |normal=>obtain⟨E,SA,SB,σ,i,b,ρ,hq,hr⟩:=hq;exact fin hr hq
 |ret=>obtain⟨E,SA,SB,σ,i,b,ρ,hq,hr⟩:=hq;exact fin hr hq
 |exit id=>obtain⟨E,SA,SB,σ,i,b,ρ,hq,hr⟩:=hq;exact hq.elim
 |_=>exact hq.elim
end it
open Go.Proofs
section
def ptA(p:Pt):LR:=[wk p]
def zt3(F:FuncId)(cs:LR)(n:Int):CG0 366 [i64 n,.fn F [.dptr cs,.loc 0 0]] [(0,.box 3 [i64 n])]
  (.dfn 426 [.dptr [i64 n],.dptr [.dfn F [.dptr cs,.dptr [i64 n]]]]) []:=by
 exact ziy 3 tok mix func366 rfl rfl rfl<|.refl
def zAW{f:Int->Pt}{n k:Nat}(h:k<n):(zb4 f n)[k]?=some (f ((k:Int)+1)):=by
 unfold zb4;rw[XD,Ql h];rfl
def zai(f:Int->Pt)(n:Nat):(zb4 f n).length=n:=by unfold zb4;simp
def zmP(f:Int->Pt)(n:Nat):zb4 f (n+1)=zb4 f n++[f ((n:Int)+1)]:=by
 unfold zb4;rw[Kw,XA];rfl
def zqr(F:FuncId)(cs:LR)(n:Int)(f:Int->Pt)(hn:0<=n/\n<=64)(h:∀i:Nat,i<n.toNat->CX F [i64 ((i:Int)+1),.dptr cs,.dptr [i64 n]] (wk (f ((i:Int)+1)))):
  zfb prog 426 [.dptr [i64 n],.dptr [.dfn F [.dptr cs,.dptr [i64 n]]]] ptA (zb4 f n.toNat):=by
 refine zi5 (caps:=[.dptr [i64 n],.dptr [.dfn F [.dptr cs,.dptr [i64 n]]]]) (enc:=ptA) (xs:=zb4 f n.toNat) tok mix func426 rfl rfl rfl rfl (λl=>?_);refine⟨Nat,λk=>⟨[(0,.val (.func (.yield l) #[] #[])),(1,.dptr [i64 n]),(2,.dptr [.dfn F [.dptr cs,.dptr [i64 n]]]),(4,i64 ((k:Int)+1))],[],0,16,0⟩,λk=>k,λk=>k<=n.toNat,λk=>n.toNat-k,0,?_,?_,rfl,rfl,?_⟩
 ·exact Xh _
 ·exact zB []
 rintro k hk
 refine⟨λg:(k:Int)+1<=n=>?_,λg:¬(k:Int)+1<=n=>?_⟩
 ·refine wg (h k oM)<|⟨rfl,f ((k:Int)+1),zAW (show k<n.toNat by omega),rfl,.C .nil,(λ_ _ h=>by cases h),?_⟩;refine Br.mk ?_ ?_
  ·refine wa ?_;refine⟨k+1,oM,ji [] ⟨rfl,rfl,rfl,iR oM,tV⟩ trivial,rfl,rfl,oN⟩
  exact .inl rfl
 exact .inr (by rw[zai];show k=n.toNat;omega)
def zCz(caps:LR)(xs:LU)(h:zfb prog 426 caps ptA xs)(hx:xs.length<=4096):CX 365 [.dfn 426 caps] (.sl ptE xs):=by
 refine ug 1 tok mix func365 rfl rfl rfl ?_
 refine⟨Pt,ptA,xs,1,[(3,.loc 0 0)],λj=>[(0,.box 148 [.own 1]),(1,.arr 28 ptE 2 (xs.take j))],λ_=>2,h,λ_=>rfl,⟨rfl,rfl,rfl,rfl⟩,
  zB [(0,some 0),(1,none)],⟨Xh _,rfl⟩,λj=>?_,?_,?_⟩
 ·intro k m hm;simp only[XY,XR,or_false,Kt]at hm
  obtain⟨_,rfl⟩|⟨_,rfl⟩:=hm
  ·rfl
  trivial
 ·intro j y hy _;have hlt:(xs.take j).length<=4096:=by rw[Xo];omega
  refine⟨Pt,ptE,[y],rfl,wb0 ?_⟩;refine⟨[y],rfl,wb3 ?_⟩;exact zu [0,4] ⟨rfl,aR (by rw[Xl,hy];rfl),tV⟩
 refine λ_=>zZ ?_
 exact X1
def zvw(a b c:Pt)(i n:Int):CX 367 [i64 i,.dptr (ptE a++ptE b++ptE c),.dptr [i64 n]] (wk (yT a b c i n)):=by
 exact zc func367<|wg (zyf a b c i n)<|.refl
variable{a:Pt}{b:Pt}{c:Pt}{tol:Int}
def zkJ(h:(jV a b c tol).2=0):zc2 a b c tol=(zb4 (λi=>yT a b c i (jV a b c tol).1) (jV a b c tol).1.toNat,0):=by
 unfold zc2;rw[qH h]
def zhJ(h:¬(jV a b c tol).2=0):zc2 a b c tol=([],(jV a b c tol).2):=by
 unfold zc2;rw[Xe h]
def zqs(c:LU×Int):SV:=.tup [.sl ptE c.1,i64 c.2]
def zhK{c:LU×Int}{a:LU}{b:Int}(h:c=(a,b)):LE (.tup [.sl ptE a,i64 b]) (zqs c):=by subst h;exact .refl
def zi6{c:LU×Int}{b:Int}(h:c=([],b)):LE (.tup [nS,i64 b]) (zqs c):=by subst h;exact zM zC .refl
def zDR(a b c:Pt)(tol:Int)(ha:zr a)(hb:zr b)(hc:zr c):CX 309 [.agg (ptE a++ptE b++ptE c),i64 tol] (zqs (zc2 a b c tol)):=by
 refine zc func309<|zfZ.data<|wg (zvp a b c tol ha hb hc)<|⟨λk=>?_,λk=>?_⟩
 ·exact zi6 (zhJ k)
 have k:(jV a b c tol).2=0:=Xa.1 k;have ok:=(yP (show(kV _ tol _).2=0 from k)).1;have ok:1<=(jV a b c tol).1/\(jV a b c tol).1<=64:=ok;have e:=zkJ k;generalize (jV a b c tol).1=n at*;refine zb.give [0] 0 [i64 n,.fn 367 [.dptr (ptE a++ptE b++ptE c),.loc 0 0]] [(0,.box 3 [i64 n])] [] _ (zt3 367 (ptE a++ptE b++ptE c) n) LEs.refl rfl rfl rfl ⟨⟨_,rfl,rfl,rfl⟩,tV⟩ rfl trivial<|wg (zCz _ _ (zqr 367 (ptE a++ptE b++ptE c) n (λi=>yT a b c i n) oM (λi _=>zvw a b c ((i:Int)+1) n)) (by rw[zai];omega)) ?_
 exact zhK e
def zDS(a b c:Pt)(tol:Int):CX 344 [.agg (ptE a++ptE b++ptE c),i64 tol] (zqs (zc2 a b c tol)):=by
 refine zc func344<|zfZ.data<|wg (zvq a b c tol)<|⟨λk=>?_,λk=>?_⟩
 ·exact zi6 (zhJ k)
 have k:(jV a b c tol).2=0:=Xa.1 k;have ok:=(yP (show(kV _ tol _).2=0 from k)).1;have ok:1<=(jV a b c tol).1/\(jV a b c tol).1<=64:=ok;have e:=zkJ k;generalize (jV a b c tol).1=n at*;refine⟨Pt,ptE,[],rfl,wb2 ?_⟩;refine⟨Nat,λi=>⟨[(2,.dptr (ptE a++ptE b++ptE c)),(6,i64 n),(8,.own 0),(9,i64 ((i:Int)+1))],[(0,.arr 28 ptE 2 (zb4 (λi=>yT a b c i n) i))],1,33,0⟩,λi=>i<=n.toNat,λi=>n.toNat-i,0,?_,?_,?_⟩
 ·exact Xh _
 ·exact zf [0]
 rintro i hi
 have hlt:=zai (λi=>yT a b c i n) i;refine⟨λg:(i:Int)+1<=n=>?_,λg:¬(i:Int)+1<=n=>?_⟩
 ·refine wg (zyg a b c ((i:Int)+1) n)<|⟨Pt,ptE,[yT a b c ((i:Int)+1) n],rfl,wb0 ?_⟩;refine⟨[yT a b c ((i:Int)+1) n],rfl,Ob.mk ⟨(by show _*(16:Int)<=_;simp only[hlt,Xn,Xr];omega),(by simp only[hlt,Xn,Xr];omega),dC,λ_ _=>rfl⟩ ?_⟩;refine wa ?_;refine⟨i+1,oM,zS [2] ⟨rfl,rfl,rfl,iR oM,tV⟩ ⟨aR (zmP _ _).symm,tV⟩,oN⟩
 have hi:i=n.toNat:=oM;subst hi;exact zhK e
def zvx(a b c d:Pt)(i n:Int):CX 370 [i64 i,.dptr (ptE a++ptE b++ptE c++ptE d),.dptr [i64 n]] (wk (yU a b c d i n)):=by
 exact zc func370<|wg (zyh a b c d i n)<|.refl
def zkK{d:Pt}(h:(jW a b c d tol).2=0):zc3 a b c d tol=(zb4 (λi=>yU a b c d i (jW a b c d tol).1) (jW a b c d tol).1.toNat,0):=by
 unfold zc3;rw[qH h]
def zhL{d:Pt}(h:¬(jW a b c d tol).2=0):zc3 a b c d tol=([],(jW a b c d tol).2):=by
 unfold zc3;rw[Xe h]
def zDT(a b c d:Pt)(tol:Int)(ha:zr a)(hb:zr b)(hc:zr c)(hd:zr d):CX 310 [.agg (ptE a++ptE b++ptE c++ptE d),i64 tol] (zqs (zc3 a b c d tol)):=by
 refine zc func310<|zfZ.data<|wg (zvr a b c d tol ha hb hc hd)<|⟨λk=>?_,λk=>?_⟩
 ·exact zi6 (zhL k)
 have k:(jW a b c d tol).2=0:=Xa.1 k;have ok:=(yP (show(kV _ tol _).2=0 from k)).1;have ok:1<=(jW a b c d tol).1/\(jW a b c d tol).1<=64:=ok;have e:=zkK k;generalize (jW a b c d tol).1=n at*;refine zb.give [0] 0 [i64 n,.fn 370 [.dptr (ptE a++ptE b++ptE c++ptE d),.loc 0 0]] [(0,.box 3 [i64 n])] [] _ (zt3 370 (ptE a++ptE b++ptE c++ptE d) n) LEs.refl rfl rfl rfl ⟨⟨_,rfl,rfl,rfl⟩,tV⟩ rfl trivial ?_
 exact wg (zCz _ _ (zqr 370 (ptE a++ptE b++ptE c++ptE d) n (λi=>yU a b c d i n) oM (λi _=>zvx a b c d ((i:Int)+1) n)) (by rw[zai];omega))<|zhK e
def zDU(a b c d:Pt)(tol:Int):CX 345 [.agg (ptE a++ptE b++ptE c++ptE d),i64 tol] (zqs (zc3 a b c d tol)):=by
 refine zc func345<|zfZ.data<|wg (zvs a b c d tol)<|⟨λk=>?_,λk=>?_⟩
 ·exact zi6 (zhL k)
 have k:(jW a b c d tol).2=0:=Xa.1 k;have ok:=(yP (show(kV _ tol _).2=0 from k)).1;have ok:1<=(jW a b c d tol).1/\(jW a b c d tol).1<=64:=ok;have e:=zkK k;generalize (jW a b c d tol).1=n at*;refine⟨Pt,ptE,[],rfl,wb2 ?_⟩;refine⟨Nat,λi=>⟨[(2,.dptr (ptE a++ptE b++ptE c++ptE d)),(6,i64 n),(8,.own 0),(9,i64 ((i:Int)+1))],[(0,.arr 28 ptE 2 (zb4 (λi=>yU a b c d i n) i))],1,33,0⟩,λi=>i<=n.toNat,λi=>n.toNat-i,0,?_,?_,?_⟩
 ·exact Xh _
 ·exact zf [0]
 rintro i hi
 have hlt:=zai (λi=>yU a b c d i n) i;refine⟨λg:(i:Int)+1<=n=>?_,λg:¬(i:Int)+1<=n=>?_⟩
 ·refine wg (zyi a b c d ((i:Int)+1) n)<|⟨Pt,ptE,[yU a b c d ((i:Int)+1) n],rfl,wb0 ?_⟩;refine⟨[yU a b c d ((i:Int)+1) n],rfl,Ob.mk ⟨(by show _*(16:Int)<=_;simp only[hlt,Xn,Xr];omega),(by simp only[hlt,Xn,Xr];omega),dC,λ_ _=>rfl⟩ ?_⟩;refine wa ?_;refine⟨i+1,oM,zS [2] ⟨rfl,rfl,rfl,iR oM,tV⟩ ⟨aR (zmP _ _).symm,tV⟩,oN⟩
 have hi:i=n.toNat:=oM;subst hi;exact zhK e
def endG(Γ:LS)(rs:List ResultVar)(r:SV)(M':LT)(e:Ex)(σ:St):Prop:=
 match e with
 |.exit _=>False
 |_=>∃σ',Sub σ σ'/\σ'.M=M'/\zbS σ' Γ rs λs=>LE s r
def yB{P:Program}{Γ:LS}(hT:TOK P Γ)(hm:P.follows .mixedOrders=true){f:FuncId}{fn:Func}{c:Code}{args:LR}{M M':LT}{r:SV}(hf:P.funcs[f]?=some fn)(hb:fn.body=some c)(hn:(fn.name== "runtime.NumGoroutine")=false) (hle:Nat.ble args.length fn.ntmps=true)
  (h:jI P Γ c ⟨jJ 0 args,M,M.length,fn.ntmps,M.length⟩ (endG Γ fn.results.toList r M')):qx P f args M r M':=by
 refine zaS hT hm hf hb hn hle h (Q':=λe σ=>(∀id,e≠.exit id)/\σ.M=M'/\zbS σ Γ fn.results.toList λs=>LE s r) (λe σ hq=>?_) (λe σ hq he=>?_) (λid σ hq=>hq.1 id rfl)
 ·cases e with
  |exit id=>exact hq.elim
  |normal=>obtain⟨σ',h1,h2,h3⟩:=hq;exact⟨σ',h1,λ_=>by simp,h2,h3⟩
  |ret=>obtain⟨σ',h1,h2,h3⟩:=hq;exact⟨σ',h1,λ_=>by simp,h2,h3⟩
 obtain⟨_,hM,hq⟩:=hq;obtain⟨s,hle,h1⟩:=yk hT hq;refine⟨s,h1,λ{E ρ a w v} hr hW hρ0 hg=>⟨ρ,?_,?_,?_⟩⟩
 ·have hs:=hr.stp;rw[hM]at hs;exact⟨hs.os,hs.tape,hs.output,hs.size,λb hb hn=>hs.block b hb λh=>hn ((hW b).1 h),λb hb=>(hs.own b hb).imp (hW b).1 id,hs.rho⟩
 ·have:=hr.mem
  rwa [hM]at this
 rw[hM]at hg;exact hle _ _ _ _ _ hg
def zAX{q:Int}(k:Nat)(hk:k<=32):vh .and .i64 q (2^k-1)=q%2^k:=by
 have hp:(2:Int)^k<=2^32:=by
  have:=XH (show 0<2 by decide) hk
  exact_mod_cast this
 have hp0:(1:Int)<=2^k:=by
  have:=Nat.one_le_two_pow (n:=k)
  exact_mod_cast this
 have hpn:(2:Nat)^k<=2^32:=XH dC hk;have hpn0:=Nat.one_le_two_pow (n:=k);have hc:((2^k:Nat):Int)=(2:Int)^k:=by exact_mod_cast rfl
 have e:(BitVec.ofInt 64 q&&&BitVec.ofInt 64 (2^k-1)).toNat=(q%2^k).toNat:=by
  rw[BitVec.toNat_and]
  have h1:(BitVec.ofInt 64 ((2:Int)^k-1)).toNat=2^k-1:=by
   rw[K3];omega
  rw[h1,Jr,K3];have hd:((2:Int)^k) ∣ (2:Int)^64:=⟨2^(64-k),by rw[←Int.pow_add];congr 1;omega⟩;have h2:(q%(2:Int)^64)%2^k=q%2^k:=Int.emod_emod_of_dvd q hd;have h3:=Kb q (show(2:Int)^64≠0 by decide);have h4:=Kb q (show(2:Int)^k≠0 by omega)
  have h5:(((q%(2:Int)^64).toNat%2^k:Nat):Int)=q%2^k:=by
   rw[QV,hc,Qj h3,h2]
  show(q%((2^64:Nat):Int)).toNat%2^k=_;have h6:((2^64:Nat):Int)=(2:Int)^64:=dC;rw[h6];omega
 show IntKind.i64.wrap ((BitVec.ofInt 64 q&&&BitVec.ofInt 64 (2^k-1)).toNat:Nat)=_;rw[e];have h4:=Kb q (show(2:Int)^k≠0 by omega);have h5:=X5 q (show(0:Int)<2^k by omega);rw[Qj h4];generalize q%2^k=z at*;simp only[IntKind.wrap,IntKind.bits,IntKind.signed];simp;omega
variable{σ:St}
def zAY(k0:Nat){m m':Mem}(h0:zU σ.M k0=some m)(hm:∀(S Pm:LI) (ρ:zh) (w:World),jH S Pm ρ w k0 m->jH S Pm ρ w k0 m'):
  Sub σ ⟨σ.L,qK σ.M k0 m',σ.nk,σ.nt,σ.n0⟩:=by
 intro E ρ a w hr;refine⟨ρ,?_⟩;have hkeys:(qK σ.M k0 m').map (·.1)=σ.M.map (·.1):=zaP;have hown:∀b,Own (qK σ.M k0 m') ρ b->Own σ.M ρ b:=λb hb=>zaa hkeys.symm hb
 have hown':∀b,Own σ.M ρ b->Own (qK σ.M k0 m') ρ b:=λb hb=>zaa hkeys hb
 have eo:Own (qK σ.M k0 m') ρ=Own σ.M ρ:=funext λb=>propext ⟨hown b,hown' b⟩
 refine⟨hr.size,hr.defers,λt s hl=>?_,⟨λk1 m1 h1=>?_,yL hkeys hr.mem.keys,λk1 m1 k2 m2 v1 v2 b h1 h2=>?_,λb hb=>hr.mem.old b (hown b hb),hr.mem.kp,hr.mem.glO hown⟩,
  hr.fresh,?_,hr.keep,hr.low⟩
 ·show t<σ.nt/\G (λb=>E.Keep b∨Own (qK σ.M k0 m') ρ b) (Own (qK σ.M k0 m') ρ) ρ w s (a.tmps.getD t undef);rw[eo];exact hr.regs t s hl
 ·show jH (λb=>E.Keep b∨Own (qK σ.M k0 m') ρ b) (Own (qK σ.M k0 m') ρ) ρ w k1 m1;rw[eo]
  obtain⟨_,h2⟩|h2:=jK hr.mem.keys _ h1
  ·exact hr.mem.rel k1 m1 h2
  cases h2
  exact hm _ _ _ _ (hr.mem.rel k0 m (zA h0))
 ·have back:∀k1 m1,(k1,m1)∈qK σ.M k0 m'->∃m',(k1,m')∈σ.M:=λk1 m1 h=>by
   obtain⟨_,h2⟩|h2:=jK hr.mem.keys _ h
   ·exact⟨m1,h2⟩
   cases h2;exact⟨_,zA h0⟩
  obtain⟨m1',h1'⟩:=back _ _ h1;obtain⟨m2',h2'⟩:=back _ _ h2;exact hr.mem.apart k1 m1' k2 m2' v1 v2 b h1' h2'
 show Stp E.W0 (Own (qK σ.M k0 m') ρ) E.ρ0 ρ E.w0 w;rw[eo];exact hr.stp
def LEs.ixs{za bs:LR}(h:LEs za bs):za.length=bs.length/\∀(j:Nat) (r:SV),bs[j]?=some r->∃s,za[j]?=some s/\LE s r:=by
 induction h with
 |nil=>exact⟨rfl,λj r h=>by simp at h⟩
 |cons h t ih=>
  refine⟨by simp[ih.1],λj r hr=>?_⟩
  cases j with
  |zero=>simp at hr;subst hr;exact⟨_,rfl,h⟩
  |succ j=>simpa using ih.2 j r (by simpa using hr)
inductive Rows:LN->LN->Prop
 |nil:Rows [] []
 |cons {x y:LR} {xs ys:LN} (h:LEs x y) (t:Rows xs ys):Rows (x::xs) (y::ys)
def Rows.refl:∀{xs:LN},Rows xs xs
 |[]=>.nil
 |_::_=>.cons .refl .refl
def Rows.C{a:LR}{us bs:LN}(t:Rows us bs):Rows (a::us) (a::bs):=.cons .refl t
variable{xs:LN}{ys:LN}
def Rows.app{us vs:LN}(h:Rows xs ys)(k:Rows us vs):Rows (xs++us) (ys++vs):=by
 induction h with
 |nil=>exact k
 |cons h t ih=>exact .cons h ih
def Rows.ix(h:Rows xs ys):xs.length=ys.length/\∀(i:Nat) y,ys[i]?=some y->∃x,xs[i]?=some x/\LEs x y:=by
 induction h with
 |nil=>exact⟨rfl,λi y h=>by simp at h⟩
 |cons h t ih=>
  refine⟨by simp[ih.1],λi y hy=>?_⟩
  cases i with
  |zero=>simp at hy;subst hy;exact⟨_,rfl,h⟩
  |succ i=>simpa using ih.2 i y (by simpa using hy)
def zeC(k0:Nat){T:TypeId}{sz:Nat}(h0:zU σ.M k0=some (.garr T sz xs))(h:Rows xs ys):Sub σ ⟨σ.L,qK σ.M k0 (.garr T sz ys),σ.nk,σ.nt,σ.n0⟩:=by
 refine zAY k0 h0 λS Pm ρ w ⟨v,cells,g1,g2,g3,g4,g5,g6⟩=>⟨v,cells,g1,by rw[←h.ix.1];exact g2,by rw[←h.ix.1];exact g3,g4,λy hy=>?_,λi j y s hy hs=>?_⟩
 ·obtain⟨i,hi⟩:=Yl.1 hy;obtain⟨x,hx,hle⟩:=h.ix.2 i y hi;rw[←hle.ixs.1];exact g5 x (Xf hx)
 obtain⟨x,hx,hle⟩:=h.ix.2 i y hy;obtain⟨s',hs',hl⟩:=hle.ixs.2 j s hs;obtain⟨u,hu,hg⟩:=g6 i j x s' hx hs';exact⟨u,hu,hl _ _ _ _ _ hg⟩
variable{α:Type _}{A:List α}{z:α}
def zsn{y:α}{n:Nat}(h:(A++[z])[n]?=some y)(hn:n=A.length):y=z:=by
 subst hn;simp at h;exact h.symm
def zi7{w:α}{n:Nat}(hn:n=A.length):(A++[z]).set n w=A++[w]:=by
 subst hn;simp
def jG(cl:LZ)(k:Nat)(b:SV):LN:=cl.map plE++[[SV.own k,b]]
def zaj(cl:LZ)(k:Nat)(b:SV):(jG cl k b).length=cl.length+1:=by unfold jG;simp
def zqt(ks:LC)(κ:Nat)(cl:LZ)(k:Nat)(p:Prop)(i:Decidable p):(jG cl k (.pr p i)).map (zaJ.rens ks κ)=jG cl (rn ks κ k) (.pr p i):=by
 unfold jG;rw[XA,List.map_map];rfl
def zyq{n k:Nat}(h:Nat.blt k n=true)(cl:LZ)(p:Prop)(i:Decidable p):∀x∈jG cl k (.pr p i),vG.lows n x=true:=λx hx=>by
 rcases Xs.1 hx with hx|hx
 ·obtain⟨q,_,rfl⟩:=XO.1 hx;rfl
 rw[Xu.1 hx];simp only[vG.lows,vG,h]
def zyr{n k:Nat}(h:Nat.blt k n=true)(cl:LZ)(p:Prop)(i:Decidable p):∀x∈jG cl k (.pr p i),zcp.outs n x=true:=λx hx=>by
 rcases Xs.1 hx with hx|hx
 ·obtain⟨q,_,rfl⟩:=XO.1 hx;rfl
 rw[Xu.1 hx];simp only[zcp.outs,zcp,h]
def v8{tb:List (Nat×Option Nat)}{cl:LZ}{a b:Nat}{p:Prop}{i:Decidable p}(h:za9 tb b=some (some a)):
  (jG cl a (.pr p i)).length=(jG cl b (.pr p i)).length/\∀(j:Nat) x,(jG cl b (.pr p i))[j]?=some x->∃x',(jG cl a (.pr p i))[j]?=some x'/\ren.rens tb x=some x':=by
 refine⟨by rw[zaj,zaj],λj x hx=>?_⟩;unfold jG at hx ⊢;rw[KO]at hx
 split at hx
 ·rename_i hi;rw[XD]at hx
  cases hy:cl[j]? with
  |none=>simp[hy]at hx
  |some y=>
   simp[hy]at hx;subst hx;exact⟨plE y,by rw[XK hi,XD,hy];rfl,rfl⟩
 rename_i hi
 have h0:j-(cl.map plE).length=0:=by
  have:=(Xd.1 hx).1;simp at this;simp at hi ⊢;omega
 rw[h0]at hx;simp at hx;subst hx;refine⟨[.own a,.pr p i],by rw[XG oM,h0];rfl,?_⟩;simp only[ren.rens,ren,h]
def zgJ(q:LU)(x:Pt):(yW q x).length<=q.length+1:=by
 unfold yW;split
 ·omega
 simp
def vt:∀(more q:LU),(kw q more).length<=q.length+more.length
 |[],q=>by simp[kw]
 |x::r,q=>by
  have h1:=vt r (yW q x);have h2:=zgJ q x;have e:kw q (x::r)=kw (yW q x) r:=rfl;rw[e,Xn];omega
def zhM{q more:LU}{i:Nat}{x:Pt}(h:more[i]?=some x):kw q (more.take (i+1))=yW (kw q (more.take i)) x:=by
 unfold kw;rw[Xl,h];simp[KV]
variable{q:LU}{x:Pt}
def zoq{z:Pt}(h:q[q.length-1]?=some z)(e:z=x):yW q x=q:=by
 unfold yW;rw[KT,h,e,Xe rfl]
def zi8{z:Pt}(h:q[q.length-1]?=some z)(e:¬z=x):yW q x=q++[x]:=by
 unfold yW;rw[KT,h,Xc (λk=>e (Xm k))]
def zor(h:q.length=0):yW q x=q++[x]:=by
 rw[Xp h];rfl
def zDV(cl:LZ)(q more:LU)(B:Prop)[iB:Decidable B](hq:q.length<=100000)(hm:more.length<=64)(hcl:cl.length<=300):
  CG0 247 [.eloc 0 2 (cl.length:Int) 0,.sl ptE more] [(0,.garr 193 2 (jG cl 1 (pr B))),(1,.arr 28 ptE 2 q)] (.tup [])
   [(0,.garr 193 2 (jG cl 2 (pr B))),(2,.arr 28 ptE 2 (kw q more))]:=by
 refine yB tok mix func247 rfl rfl rfl λhl1=>?_
 refine⟨Nat,λi=>⟨[(0,.eloc 0 2 (cl.length:Int) 0),(7,.sl ptE more),(8,i64 more.length),(9,i64 i)],
   [(0,.garr 193 2 (jG cl 2 (pr B))),(2,.arr 28 ptE 2 (kw q (more.take i)))],3,43,2⟩,λi=>i<=more.length,λi=>more.length-i,0,?_,?_,?_⟩
 ·exact Xh _
 ·exact zu [0,1,1] ⟨⟨_,rfl,v8 rfl⟩,rfl,tV⟩
 rintro i hi
 have hlen:=vt (more.take i) q;rw[Xo]at hlen;have hcell:∀{y:LR} {k:Nat} {b:SV},(jG cl k b)[(cl.length:Int).toNat]?=some y->y=[.own k,b]:=λh=>zsn h sI
 have hcn:(cl.length:Int).toNat=(cl.map plE).length:=by simp
 have hset:∀(k:Nat) (b:SV) (w:LR),(jG cl k b).set (cl.length:Int).toNat w=cl.map plE++[w]:=λk b w=>by unfold jG;exact zi7 hcn
 have hrow:0<=(cl.length:Int)/\(cl.length:Int)<(jG cl 2 (pr B)).length:=by rw[zaj];omega
 refine⟨λg:(i:Int)<more.length=>?_,λg:¬(i:Int)<more.length=>?_⟩
 ·refine wb λx(hx:more[i]?=some x)=>?_;have e:=zhM (q:=q) hx;refine Ob.mk hrow λy hy=>?_;obtain rfl:=hcell hy;intro hl2
  have yes:kw q (more.take (i+1))=(kw q (more.take i))++[x]->∀{σ:St},Sub σ ⟨[(0,.eloc 0 2 (cl.length:Int) 0),(7,.sl ptE more),(8,i64 more.length),(9,i64 ((i+1:Nat):Int))],
    [(0,.garr 193 2 (jG cl 2 (pr B))),(2,.arr 28 ptE 2 ((kw q (more.take i))++[x]))],3,43,2⟩->Sub σ ⟨[(0,.eloc 0 2 (cl.length:Int) 0),(7,.sl ptE more),(8,i64 more.length),(9,i64 ((i+1:Nat):Int))],
    [(0,.garr 193 2 (jG cl 2 (pr B))),(2,.arr 28 ptE 2 (kw q (more.take (i+1))))],3,43,2⟩:=λh σ k=>by rw[h];exact k
  refine wd<|Br.mk (λz=>?_) (λz=>?_)
  ·have z:((kw q (more.take i)).length:Int)=0:=z;refine wh<|wd<|Ob.mk hrow λy hy=>?_;obtain rfl:=hcell hy;refine⟨Pt,ptE,[x],rfl,wb0 ?_⟩;refine⟨[x],rfl,wb3 ?_⟩;refine Ob.mk hrow λy hy=>?_;obtain rfl:=hcell hy;refine wh<|wa ?_;refine⟨i+1,oM,yes (by rw[e,zor oM]) (zu [0,1,5] ⟨⟨_,Xg (λq=>some (Mem.garr 193 2 q)) (hset _ _ _),v8 rfl⟩,rfl,tV⟩),oN⟩
  have z:¬((kw q (more.take i)).length:Int)=0:=z;refine Ob.mk hrow λy hy=>?_;obtain rfl:=hcell hy;refine wa<|wb<|wb λt ht=>?_
  have ht:(kw q (more.take i))[(kw q (more.take i)).length-1]?=some t:=by
   have ht:(kw q (more.take i))[(((kw q (more.take i)).length:Int)-1).toNat]?=some t:=ht
   rwa [show(((kw q (more.take i)).length:Int)-1).toNat=(kw q (more.take i)).length-1 by omega]at ht
  refine wh<|⟨λk=>?_,λk=>?_⟩
  ·have k:¬t=x:=λh=>k (qi.2 h)
   refine wd<|Ob.mk hrow λy hy=>?_;obtain rfl:=hcell hy;refine⟨Pt,ptE,[x],rfl,wb0 ?_⟩;refine⟨[x],rfl,wb3 ?_⟩;refine Ob.mk hrow λy hy=>?_;obtain rfl:=hcell hy;refine wh<|wa ?_;refine⟨i+1,oM,yes (by rw[e,zi8 ht k]) (zu [0,1,5] ⟨⟨_,Xg (λq=>some (Mem.garr 193 2 q)) (hset _ _ _),v8 rfl⟩,rfl,tV⟩),oN⟩
  have k:t=x:=qi.1 (Xa.1 k);refine wa ?_;refine⟨i+1,oM,zu [0,1,2] ⟨⟨_,rfl,v8 rfl⟩,aR (by rw[e,zoq ht k]),tV⟩,oN⟩
 have e:more.take i=more:=Xi oM;exact⟨_,.refl,Xg (λl=>[(0,Mem.garr 193 2 (jG cl 2 (pr B))),(2,Mem.arr 28 ptE 2 (kw q l))]) e,.refl⟩
def zDW(q more:LU)(hq:q.length<=100000)(hm:more.length<=64):
  CG0 288 [.own 0,.sl ptE more] [(0,.arr 28 ptE 2 q)] (.own 1) [(1,.arr 28 ptE 2 (kw q more))]:=by
 refine yB tok mix func288 rfl rfl rfl<|⟨Nat,λi=>⟨[(0,.own 1),(1,.sl ptE more),(5,i64 i)],[(1,.arr 28 ptE 2 (kw q (more.take i)))],2,36,1⟩,λi=>i<=more.length,λi=>more.length-i,0,?_,?_,?_⟩
 ·exact Xh _
 ·exact zf [0,0]
 rintro i hi
 have hlen:=vt (more.take i) q;rw[Xo]at hlen;intro hl1;refine⟨λg:(i:Int)<more.length=>?_,λg:¬(i:Int)<more.length=>?_⟩
 ·obtain⟨x,hx⟩:∃x,more[i]?=some x:=⟨_,Xb oM⟩;have e:=zhM (q:=q) hx;have same:∀{y:Pt},more[(i:Int).toNat]?=some y->y=x:=λh=>Xm ((show more[i]?=some _ from h).symm.trans hx)
  refine wd λhl2=>?_;refine⟨λz:((kw q (more.take i)).length:Int)=0=>?_,λz:¬((kw q (more.take i)).length:Int)=0=>?_⟩
  ·refine wh<|wb λy hy=>?_;rw[same hy];refine⟨Pt,ptE,[x],rfl,wb0 ?_⟩;refine⟨[x],rfl,wb3 ?_⟩;refine wa ?_;refine⟨i+1,oM,zu [0,3] ⟨aR (by rw[e,zor oM]),tV⟩,oN⟩
  intro hl3;refine wa<|wb<|wb λt ht=>?_
  have ht:(kw q (more.take i))[(kw q (more.take i)).length-1]?=some t:=by
   have ht:(kw q (more.take i))[(((kw q (more.take i)).length:Int)-1).toNat]?=some t:=ht
   rwa [show(((kw q (more.take i)).length:Int)-1).toNat=(kw q (more.take i)).length-1 by omega]at ht
  refine wb λy hy=>?_;rw[same hy];refine wh<|⟨λk=>?_,λk=>?_⟩
  ·have k:¬t=x:=λh=>k (qi.2 h)
   refine wb λy hy=>?_;rw[same hy];refine⟨Pt,ptE,[x],rfl,wb0 ?_⟩;refine⟨[x],rfl,wb3 ?_⟩;refine wa ?_;refine⟨i+1,oM,zu [0,3] ⟨aR (by rw[e,zi8 ht k]),tV⟩,oN⟩
  have k:t=x:=qi.1 (Xa.1 k);refine wa ?_;refine⟨i+1,oM,zu [0,1] ⟨aR (by rw[e,zoq ht k]),tV⟩,oN⟩
 have e:more.take i=more:=Xi oM;exact⟨_,.refl,Xg (λl=>[(1,Mem.arr 28 ptE 2 (kw q l))]) e,.refl⟩
variable{p:Pt}
def zqu{s:Sg}(h:s.v=3):kI p s tol=zc2 p s.a s.b tol:=by unfold kI;rw[Xe h]
def zqv{s:Sg}(h3:¬s.v=3)(h:s.v=4):kI p s tol=zc3 p s.a s.b s.c tol:=by unfold kI;rw[Xc h3,Xe h]
def zqw{s:Sg}(h3:¬s.v=3)(h:¬s.v=4):kI p s tol=([s.a],0):=by unfold kI;rw[Xc h3,Xc h]
def p_seg(p:Pt)(s:Sg)(tol:Int)(hp:zr p)(hs:zr s.a/\zr s.b/\zr s.c):CX 246 [wk p,.agg (sgE s),i64 tol] (zqs (kI p s tol)):=by
 refine zc func246<|Br.mk (λh3=>?_) (λh3=>?_)
 ·have h3:s.v=3:=h3;refine wg (zDR p s.a s.b tol hp hs.1 hs.2.1) ?_;rw[zqu h3];exact .refl
 have h3:¬s.v=3:=h3;refine⟨λh4:s.v=4=>?_,λh4:¬s.v=4=>?_⟩
 ·refine wg (zDT p s.a s.b s.c tol hp hs.1 hs.2.1 hs.2.2) ?_;rw[zqv h3 h4];exact .refl
 refine⟨Pt,ptE,[s.a],rfl,wb0 ?_⟩;exact zhK (zqw h3 h4)
def r_seg(p:Pt)(s:Sg)(tol:Int):CX 287 [wk p,.agg (sgE s),i64 tol] (zqs (kI p s tol)):=by
 refine zc func287<|Br.mk (λh3=>?_) (λh3=>?_)
 ·have h3:s.v=3:=h3;refine wg (zDS p s.a s.b tol) ?_;rw[zqu h3];exact .refl
 have h3:¬s.v=3:=h3;refine⟨λh4:s.v=4=>?_,λh4:¬s.v=4=>?_⟩
 ·refine wg (zDU p s.a s.b s.c tol) ?_;rw[zqv h3 h4];exact .refl
 refine⟨Pt,ptE,[s.a],rfl,wb0 ?_⟩;exact zhK (zqw h3 h4)
end
end Go.Gs
