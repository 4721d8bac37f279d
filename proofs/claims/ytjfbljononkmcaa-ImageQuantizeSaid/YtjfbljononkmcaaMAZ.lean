/- A function whose own blocks are data from its end on: what it hands back may point at them. -/
import Derived.Test.YtjfbljononkmcaaMA
import Derived.Test.YtjfbljononkmcaaMAQ
import Derived.Test.YtjfbljononkmcaaMAY
import Derived.Test.YtjfbljononkmcaaMAX
import Derived.Test.YtjfbljononkmcaaMAU
import Derived.RowKit3
import Derived.Below
import GoSem.Claim
set_option maxRecDepth 100000
set_option maxHeartbeats 8000000
set_option linter.all false
namespace Go.Gs
def u5(prev:SV->SV)(lm:Nat->Option Mem):SV->SV
 |.loc k off=>(match lm k with
  | some (.box _ cs)=>.dptr ((cs.map prev).drop off)
  | _=>.junk)
 |.own k=>(match lm k with
  | some (.arr _ enc _ xs)=>.sl enc xs
  | _=>.junk)
 | .fn f cs=>.dfn f (frzs prev lm cs)
 | .agg cs=>.agg (frzs prev lm cs)
 | .ifc t s=>.ifc t (u5 prev lm s)
 | .val v=>.val v
 | .pr p i=>.pr p i
 | .sl enc xs=>.sl enc xs
 | .dptr cs=>.dptr cs
 | .dfn f cs=>.dfn f cs
 | .bm f cs=>.bm f cs
 | .op v=>.op v
 | .nils=>.nils
 | .anyb=>.anyb
 | .full enc xs=>.full enc xs
 | _=>.junk
 where
 frzs (prev:SV->SV) (lm:Nat->Option Mem):List SV->List SV
  | []=>[]
  | c::cs=>u5 prev lm c::frzs prev lm cs
def frz(lm:Nat->Option Mem):Nat->SV->SV
 | 0=>u5 (fun _=>.junk) lm
 | n+1=>u5 (frz lm n) lm
def frzR(lm:Nat->Option Mem)(n:Nat)(s:SV):SV:=
 match s with
 | .tup cs=>.tup (cs.map (frz lm n))
 | s=>frz lm n s
theorem za0(prev:SV->SV)(lm:Nat->Option Mem):∀cs,u5.frzs prev lm cs=cs.map (u5 prev lm)
 | []=>rfl
 | c::cs=>by rw [u5.frzs,za0 prev lm cs];rfl
section
variable {Keep:Nat->Prop} {M:List (Nat×Mem)} {ρ:zd} {w:World} {lm:Nat->Option Mem}
theorem zg6 (hlm:∀k m,lm k=some m->(k,m)∈M) (hm:zj Keep M ρ w) {prev:SV->SV}
  (hp:∀{s:SV} {v:Value},G (fun b=>Keep b∨Own M ρ b) (Own M ρ) ρ w s v->D Keep w (prev s) v):
  ∀(s:SV) {v:Value},G (fun b=>Keep b∨Own M ρ b) (Own M ρ) ρ w s v->D Keep w (u5 prev lm s) v:=by
 have hsub:∀b,Keep b->Keep b∨Own M ρ b:=fun b h=>.inl h
 intro s
 induction s using SV.rec (motive_2:=fun cs=>∀{vs:List Value},Gs (fun b=>Keep b∨Own M ρ b) (Own M ρ) ρ w cs vs->∀(j:Nat) (s:SV) (v:Value),(u5.frzs prev lm cs)[j]? =some s->vs[j]? =some v->D Keep w s v) with
 | val v=>intro u hg;rw [hg.val_inv];exact .val v
 | pr p i=>intro u hg;rw [hg.pr_inv];exact .pr p i
 | sl enc xs=>intro u hg;exact hg.sl_inv.less hsub
 | nils=>intro u hg;obtain ⟨a,rfl⟩:=hg.nils_inv;exact .nils a
 | anyb=>intro u hg;obtain ⟨b,rfl⟩:=hg.anyb_inv;exact .anyb b
 | full enc xs=>intro u hg;obtain ⟨a,rfl,hd⟩:=hg.full_inv;exact .full enc xs a (hd.less hsub)
 | dptr cs _=>intro u hg;cases hg with | d _ _ h=>exact h.less hsub
 | dfn f cs _=>intro u hg;cases hg with | d _ _ h=>exact h.less hsub
 | bm f cs _=>intro u hg;cases hg with | d _ _ h=>exact h.less hsub
 | op v=>intro u hg;cases hg with | d _ _ h=>exact h.less hsub
 | ifc t s ih=>
  intro u hg;obtain ⟨v,rfl,hv⟩:=hg.ifc_inv;exact .ifc t _ v (ih hv)
 | agg cs ih=>
  intro u hg;obtain ⟨vs,rfl,hvs⟩:=hg.agg_inv;exact .agg _ vs (by rw [za0,List.length_map];exact hvs.1) (ih hvs)
 | fn f cs ih=>
  intro u hg;obtain ⟨vs,rfl,hvs⟩:=hg.fn_inv;exact .dfn f _ vs (by rw [za0,List.length_map];exact hvs.1) (ih hvs)
 | loc k off=>
  intro u hg;obtain ⟨b,hρ,rfl⟩:=hg.loc_inv;simp only [u5]
  split
  ·rename_i T cs hk;have hmem:=hlm k _ hk;obtain ⟨b',vs,h1,h2,h3,h4,h5⟩:=hm.rel k _ hmem;rw [hρ] at h1;cases h1
   have hb:=hm.old b ⟨k,_,_,hmem,hρ,rfl⟩;refine .dptr _ b off (fun j=>(vs[off+j]?).getD undef) hb.1 hb.2 (fun j hj=>?_) (fun j s hs=>?_)
   ·have hj':off+j < vs.length:=by simp at hj;omega
    rw [uy h2];simp only [List.getElem?_eq_getElem hj',Option.getD_some];exact ⟨trivial,h4 _ (List.getElem_mem hj')⟩
   ·rw [List.getElem?_drop,List.getElem?_map] at hs
    cases hc:cs[off+j]? with
    | none=>simp [hc] at hs
    | some c=>
     simp [hc] at hs;subst hs;have hj':off+j < vs.length:=by have:=(List.getElem?_eq_some_iff.1 hc).1;omega
     rw [List.getElem?_eq_getElem hj',Option.getD_some];exact hp (h5 _ c _ hc (List.getElem?_eq_getElem hj'))
  ·exact .junk _
 | own k=>
  intro u hg;obtain ⟨hρ,h1⟩:=hg.own_inv;simp only [u5]
  split
  ·rename_i T α enc sz xs hk;have hmem:=hlm k _ hk;exact zal hm hmem (fun b hb=>.inl hb) (fun v b hv hb hk=>(hm.old b ⟨k,_,v,hmem,hv,hb⟩).2 hk) hρ
  ·exact .junk _
 | ptr cs _=>intro u _;exact .junk _
 | eloc _ _ _ _=>intro u _;exact .junk _
 | win _ _ _ _=>intro u _;exact .junk _
 | tup cs _=>intro u _;exact .junk _
 | junk=>intro u _;exact .junk _
 | nil=>rename_i vs _ j s v h _;simp [u5.frzs] at h
 | cons c cs ihc ihcs=>
  rename_i vs hg j s v h hv;obtain ⟨v0,vs',rfl,h1,h2⟩:=hg.cons_inv
  cases j with
  | zero=>simp [u5.frzs] at h hv;subst h;subst hv;exact ihc h1
  | succ j=>exact ihcs h2 j s v (by simpa [u5.frzs] using h) (by simpa using hv)
theorem zhX(hlm:∀k m,lm k=some m->(k,m)∈M)(hm:zj Keep M ρ w):∀(n:Nat) {s:SV} {v:Value},G (fun b=>Keep b∨Own M ρ b) (Own M ρ) ρ w s v->D Keep w (frz lm n s) v
 | 0,s,_,h=>zg6 hlm hm (fun _=>.junk _) s h
 | n+1,s,_,h=>zg6 hlm hm (fun h=>zhX hlm hm n h) s h
end
def endF(n:Nat)(Γ:List (TypeId×TI))(rs:List ResultVar)(r:SV)(e:Ex)(σ:St):Prop:=
 match e with
 | .exit _=>False
 | _=>vH σ Γ rs fun s=>LE (frzR (zl σ.M) n s) r
theorem za1 (n:Nat) {P:Program} {Γ:List (TypeId×TI)} (hT:TOK P Γ) (hm:P.follows .mixedOrders=true) {f:FuncId} {fn:Func} {c:Code} {args:List SV} {r:SV}
  (hf:P.funcs[f]? =some fn) (hb:fn.body=some c) (hn:(fn.name== "runtime.NumGoroutine")=false) (hle:Nat.ble args.length fn.ntmps=true)
  (h:jX P Γ c ⟨qq 0 args,[],0,fn.ntmps,0⟩ (endF n Γ fn.results.toList r)):zf P f args [] r []:=by
 refine jF hT hm hf hb hn hle h (fun e σ h=>⟨σ,.refl,h⟩) (fun e σ hq he=>?_) (fun id σ hq=>hq)
 have hq:vH σ Γ fn.results.toList fun s=>LE (frzR (zl σ.M) n s) r:=by
  cases e with
  | exit id=>exact absurd rfl (he id)
  | normal=>exact hq
  | ret=>exact hq
 obtain ⟨s,hle,h1⟩:=jE hT hq;refine ⟨s,h1,fun {E ρ a w v} hr hW _ hg=>⟨ρ,?_,?_,?_⟩⟩
 ·have hs:=hr.stp;exact ⟨hs.os,hs.tape,hs.output,hs.size,fun b hb hn=>hs.block b hb fun h=>hn ((hW b).1 h),fun b hb=>absurd hb zw,hs.rho⟩
 ·exact (kV hr.mem.kp fun _ _ h=>hr.mem.glc h)
 ·have hd:∀{s:SV} {v:Value},G (fun b=>E.Keep b∨Own σ.M ρ b) (Own σ.M ρ) ρ w s v->D (fun b=>E.Keep b∨Own [] ρ b) w (frz (zl σ.M) n s) v:=fun h=>
   (zhX (fun k m h=>zg h) hr.mem n h).less fun b hb=>hb.resolve_right zw
  refine hle _ _ _ _ _ ?_;unfold frzR
  split
  ·rename_i cs;obtain ⟨vs,rfl,hvs⟩:=hg.tup_inv;refine .tup _ vs (by rw [List.length_map];exact hvs.1) fun j s v hs hv=>?_
   rw [List.getElem?_map] at hs
   cases hc:cs[j]? with
   | none=>simp [hc] at hs
   | some c=>
    simp [hc] at hs;subst hs;exact .d _ _ (hd (hvs.2 j c v hc hv))
  ·exact .d _ _ (hd hg)
open Go.Proofs
def yk(m:Img)(b:List Int):Qd:=b.foldl (fun q x=>zfD q (zbh m x) 1) zQ
theorem vv{m:Img}{b:List Int}{j:Nat}{x:Int}(h:b[j]? =some x):yk m (b.take (j+1))=zfD (yk m (b.take j)) (zbh m x) 1:=by
 unfold yk;rw [List.take_add_one,h,Option.toList_some,List.foldl_append];rfl
theorem vZ{m:Img}(hm:okM m){b:List Int}(hb:InP m b):∀j:Nat,j<=b.length->inQ (yk m (b.take j)) j
 | 0,_=>by rw [List.take_zero];exact zgC
 | j+1,h=>by
  have hx:=List.getElem?_eq_getElem (show j < b.length by omega);have hp:=zeZ hm (hb.at hx);rw [vv hx];have:=zhr (vZ hm hb j oM) hp.1 hp.2 (show (0:Int)<=1 by decide);rw [Int.natCast_add];exact this
def y5(m:Img)(bs:List (List Int)):List Pix:=bs.map fun b=>zbg (yk m b) (b.length:Int)
theorem u6(m:Img)(bs:List (List Int)):(y5 m bs).length=bs.length:=by simp [y5]
theorem zbR{m:Img}{bs:List (List Int)}{i:Nat}{b:List Int}(h:bs[i]? =some b):y5 m (bs.take (i+1))=y5 m (bs.take i)++[zbg (yk m b) (b.length:Int)]:=by
 unfold y5;rw [List.take_add_one,h,Option.toList_some,List.map_append];rfl
def vO(idx b:List Int)(i:Int):List Int:=b.foldl (fun a x=>a.set x.toNat i) idx
theorem za2(b:List Int)(i:Int):∀idx:List Int,(vO idx b i).length=idx.length:=by
 induction b with
 | nil=>exact fun _=>rfl
 | cons x b ih=>
  intro idx;show (vO (idx.set x.toNat i) b i).length=_;rw [ih,List.length_set]
theorem zbS{idx b:List Int}{i:Int}{j:Nat}{x:Int}(h:b[j]? =some x):vO idx (b.take (j+1)) i=(vO idx (b.take j) i).set x.toNat i:=by
 unfold vO;rw [List.take_add_one,h,Option.toList_some,List.foldl_append];rfl
def jg(N:Nat)(bs:List (List Int)):Nat->List Int
 | 0=>List.replicate N 0
 | k+1=>vO (jg N bs k) (bs.getD k []) (k:Int)
theorem u7(N:Nat)(bs:List (List Int)):∀k,(jg N bs k).length=N
 | 0=>by simp [jg]
 | k+1=>by rw [jg,za2,u7 N bs k]
theorem zhD{n i:Int}(hi:0<=i/\i < n)(b:List Int):∀idx:List Int,(∀x∈idx,0<=x/\x < n)->∀x∈vO idx b i,0<=x/\x < n:=by
 induction b with
 | nil=>exact fun _ h=>h
 | cons y b ih=>exact fun idx h=>ih (idx.set y.toNat i) fun x hx=>(List.mem_or_eq_of_mem_set hx).elim (h x) fun e=>e ▸ hi
theorem ze8(N:Nat)(bs:List (List Int))(h:bs≠[]):∀k,k<=bs.length->∀x∈jg N bs k,0<=x/\x < (bs.length:Int)
 | 0,_=>fun x hx=>by
  have:=List.length_pos_iff.2 h;rw [List.eq_of_mem_replicate hx];omega
 | k+1,hk=>zhD oM _ _ (ze8 N bs h k oM)
def kC(m:Img)(n:Int):(List Pix×List Int)×Int:=
 if ¬qr m then (([],[]),16) else if ¬(1<=n/\n<=256) then (([],[]),2) else ((y5 m (yK m n.toNat),jg m.px.length (yK m n.toNat) (yK m n.toNat).length),0)
def ze9(q:(List Pix×List Int)×Int):SV:=.tup [.sl kd q.1.1,.sl zq q.1.2,i64 q.2]
theorem zir{m:Img}(hm:okM m){bs:List (List Int)}(hb:un m bs):∀p∈y5 m bs,P8 p/\jw p:=fun p hp=>by
 obtain ⟨b,h,rfl⟩:=List.mem_map.1 hp;obtain ⟨b1,b2,b3⟩:=hb.2 b h;have:=vZ hm b2 b.length (Nat.le_refl _);rw [List.take_length] at this;exact zgD this (by have:=List.length_pos_iff.2 b1;omega)
theorem v5:LE (.val (.slice none 0 0)) (.sl kd []):=fun _ _ _ _ _ hg=>by
 rw [hg.val_inv];exact .d _ _ (.nil _ _)
theorem v6:LE (.val (.slice none 0 0)) (.sl zq []):=fun _ _ _ _ _ hg=>by
 rw [hg.val_inv];exact .d _ _ (.nil _ _)
theorem yX{a b c a' b' c':SV}(h1:LE a a')(h2:LE b b')(h3:LE c c'):LE (.tup [a,b,c]) (.tup [a',b',c']):=by
 refine zd6 ?_;exact .cons h1 (.cons h2 (.cons h3 .nil))
theorem zg7{tb:List (Nat×Option Nat)}(h:qR tb 1=some (some 3))(ws:List (Nat×Nat)):((qt ws).map (k6.rens [] 2)).length=(qt ws).length/\∀(i:Nat) (x:List SV),(qt ws)[i]? =some x->∃x',((qt ws).map (k6.rens [] 2))[i]? =some x'/\ren.rens tb x=some x':=by
 refine ⟨List.length_map ..,fun i x hx=>?_⟩;obtain ⟨u,_,rfl⟩:=yW hx;refine ⟨_,by rw [List.getElem?_map,hx];rfl,?_⟩;simp only [ren.rens,ren,h];rfl
theorem pixc{l l':List Pix}(h:l=l'):some (Mem.arr 37 kd 4 l)=some (Mem.arr 37 kd 4 l'):=by rw [h]
theorem boxQ{q q':Qd}(h:q=q'):some (Mem.box 75 (qdE q))=some (Mem.box 75 (qdE q')):=by rw [h]
theorem zhE(m:Img)(n:Int)(hl:m.px.length<=9223372036854775807)(hp:P8s m):zf Try.prog 31 [.agg (kj m),i64 n] [] (ze9 (kC m n)) []:=by
 refine za1 2 tok mix Try.func31 rfl rfl rfl ?_;refine ze.t (zeP m hl) ?_;unfold kC;refine Br.mk (fun h=>?_) (fun h=>?_)
 ·have h:¬qr m:=h;rw [if_pos h];exact yX v5 v6 .refl
 have h:¬¬qr m:=h;rw [if_neg h];have hm:qr m:=Classical.not_not.1 h;obtain ⟨N1,N2⟩:=zcA hm
 have bad:¬(1<=n/\n<=256)->LE (SV.tup [.val (.slice none 0 0),.val (.slice none 0 0),i64 2]) (ze9 (if ¬(1<=n/\n<=256) then (([],[]),2) else ((y5 m (yK m n.toNat),jg m.px.length (yK m n.toNat) (yK m n.toNat).length),0))):=fun h=>by
  rw [if_pos h];exact yX v5 v6 .refl
 refine Br.mk (fun g=>?_) (fun g=>?_)
 ·have g:n < 1:=g;exact bad oM
 have g:¬n < 1:=g;refine Br.mk (fun k=>?_) (fun k=>?_)
 ·have k:256 < n:=k;exact bad oM
 have k:¬256 < n:=k;clear bad;rw [if_neg oM];obtain ⟨N,rfl⟩:∃N:Nat,n=(N:Int):=⟨n.toNat,oM⟩;rw [Int.toNat_natCast];obtain ⟨cw,wsok⟩:=zg1 hp hm N1 N;obtain ⟨bok,bln⟩:=zcy (m:=m) hp hm (n:=N) oM;have hcut:=c_cut m N hp hm oM;rw [← cw] at bok bln ⊢;generalize (zbi m N).1=l at*;generalize (zbi m N).2=ws at*;intro _;refine ⟨Int,zq,0,rfl,Ob.o2 ?_⟩;refine ze.give [] 2 [.agg (kj m),i64 (N:Int)] [] (Mws l ws) (.own 0) hcut LEs.refl rfl rfl rfl trivial rfl ⟨⟨rfl,zdF ws⟩,⟨rfl,trivial⟩,trivial⟩ ?_;intro _
 have hml:((qt ws).map (k6.rens [] 2)).length=ws.length:=by rw [List.length_map,qI]
 have hml':((qt ws).map (k6.rens [] (0+1+1))).length=ws.length:=hml;rw [hml'];have eb:(zI l ws).length=ws.length:=qJ l ws;rw [eb] at bln
 refine ⟨Nat,fun i=>⟨[(31,i64 (i:Int)),(30,i64 (ws.length:Int)),(29,.own 2),(8,.own 3),(7,.own 4),(2,.loc 0 0)],[(4,.arr 37 kd 4 (y5 m ((zI l ws).take i))),(3,.arr 3 zq 1 (jg m.px.length (zI l ws) i)),(2,.garr 53 1 (qt ws)),(1,.arr 3 zq 1 l),(0,.box 28 (kj m))],5,63,0⟩,
  fun i=>i<=ws.length,fun i=>ws.length - i,0,Nat.zero_le _,?_,?_⟩
 ·exact kD [(0,some 0),(1,some 3),(2,some 2),(3,some 1),(4,none)] ⟨by rw [List.take_zero];rfl,y4 (by show List.replicate (m.px.length:Int).toNat (0:Int)=_;rfl),⟨_,rfl,zg7 rfl ws⟩,rfl,rfl,trivial⟩
 intro i hi;have hi:i<=ws.length:=hi;refine Br.mk (fun f=>?_) (fun f=>?_);rotate_left
 ·have f:¬(i:Int) < (ws.length:Int):=f;obtain rfl:i=ws.length:=oM;have e1:(zI l ws).take ws.length=zI l ws:=List.take_of_length_le oM;refine yX ?_ ?_ .refl
  ·show LE (.sl kd (y5 m ((zI l ws).take ws.length))) _;rw [e1];exact .refl
  ·show LE (.sl zq (jg m.px.length (zI l ws) ws.length)) _;rw [eb];exact .refl
 have f:(i:Int) < (ws.length:Int):=f;refine Ob.mk (by rw [qI];omega) ?_;refine Ob.mk (by rw [qI];omega) ?_;intro x hx;obtain ⟨u,hu,hx⟩:=yW hx;have hu:ws[i]? =some u:=hu;rw [hx];obtain ⟨u1,u2⟩:=wsok.2 u (List.mem_of_getElem? hu);have hbx:(zI l ws)[i]? =some (seg l u.1 (u.1+u.2)):=by unfold zI;rw [List.getElem?_map,hu];rfl
 have hbd:(zI l ws).getD i []=seg l u.1 (u.1+u.2):=uZ hu;obtain ⟨b1,b2,b3⟩:=bok.2 _ (List.mem_of_getElem? hbx);have bl:(seg l u.1 (u.1+u.2)).length=u.2:=by rw [z5 u2];omega
 have hidl:=u7 m.px.length (zI l ws) i;have eid:jg m.px.length (zI l ws) (i+1)=vO (jg m.px.length (zI l ws) i) (seg l u.1 (u.1+u.2)) (i:Int):=by rw [jg,hbd]
 have ats:∀j:Nat,j < u.2->∀x,l[u.1+j]? =some x->(seg l u.1 (u.1+u.2))[j]? =some x:=fun j hj x hx=>by
  unfold seg;rw [List.getElem?_take,if_pos oM,List.getElem?_drop];exact hx
 generalize seg l u.1 (u.1+u.2)=bx at*;refine Ob.o ?_
 refine ⟨Nat,fun j=>⟨[(38,i64 (j:Int)),(37,i64 (u.2:Int)),(36,.win 1 1 (u.1:Int) (u.2:Int)),(11,.loc 5 0),(9,i64 (i:Int)),(10,.win 1 1 (u.1:Int) (u.2:Int)),(31,i64 (i:Int)),(30,i64 (ws.length:Int)),(29,.own 2),(8,.own 3),(7,.own 4),(2,.loc 0 0)],
  [(5,.box 75 (qdE (yk m (bx.take j)))),(4,.arr 37 kd 4 (y5 m ((zI l ws).take i))),(3,.arr 3 zq 1 (vO (jg m.px.length (zI l ws) i) (bx.take j) (i:Int))),(2,.garr 53 1 (qt ws)),(1,.arr 3 zq 1 l),(0,.box 28 (kj m))],6,63,0⟩,
  fun j=>j<=u.2,fun j=>u.2 - j,0,Nat.zero_le _,?_,?_⟩
 ·exact kD [(0,some 0),(1,some 1),(2,some 2),(3,some 3),(4,some 4),(5,some 5)] ⟨boxQ (q:=zQ) (q':=yk m (bx.take 0)) (by rw [List.take_zero];rfl),rfl,y4 (by rw [List.take_zero];rfl),⟨_,rfl,rfl,qu rfl ws⟩,rfl,rfl,trivial⟩
 intro j hj;have hj:j<=u.2:=hj;have hsum:=vZ ⟨hm,hp⟩ b2 j oM;refine Br.mk (fun q=>?_) (fun q=>?_)
 ·have q:(j:Int) < (u.2:Int):=q;refine Ob.o ?_;refine Ob.o ?_;intro x hx;rw [show ((u.1:Int)+(j:Int)).toNat=u.1+j by omega] at hx;have hbj:=ats j oM x hx;have hxr:=b2.at hbj;refine Ob.mk hxr ?_;intro p hpx;have hpx:m.px[x.toNat]? =some p:=hpx;have epx:=ze3 hpx;refine ze.hand 5 _ _ _ rfl (zil (yk m (bx.take j)) p 1 (zeW hsum oM) (ze4 hp hpx) dC) rfl rfl rfl rfl ?_;have hil:=za2 (bx.take j) (i:Int) (jg m.px.length (zI l ws) i);refine Ob.mk (by rw [hil,hidl];exact hxr) ?_;refine Ob.mk (by rw [hil,hidl];exact hxr) ?_;intro _ _
  refine ⟨(i:Int),rfl,?_⟩;refine Ar.o ?_;refine ⟨j+1,by show j+1<=u.2;omega,kD [(0,some 0),(1,some 1),(2,some 2),(3,some 3),(4,some 4),(5,some 5)] ⟨boxQ (by rw [vv hbj,epx]),rfl,y4 (zbS hbj).symm,⟨_,rfl,rfl,qu rfl ws⟩,rfl,rfl,trivial⟩,by dsimp only;omega⟩
 ·have q:¬(j:Int) < (u.2:Int):=q;obtain rfl:j=u.2:=oM;have et:bx.take u.2=bx:=List.take_of_length_le oM;refine Ob.o ?_;refine ze.t (c_qby (yk m (bx.take u.2)) (u.2:Int) hsum oM) ?_;refine ⟨Pix,kd,[zbg (yk m (bx.take u.2)) (u.2:Int)],rfl,Ob.mk (zgM _) ?_⟩;refine ⟨[zbg (yk m (bx.take u.2)) (u.2:Int)],rfl,Ob.mk (zgN (by rw [u6,List.length_take];omega)) ?_⟩;refine Ar.o ?_
  refine ⟨i+1,by show i+1<=ws.length;omega,kD [(0,some 0),(1,some 1),(2,some 2),(3,some 3),(4,some 7)] ⟨pixc ?_,y4 (by rw [et,eid]),⟨_,rfl,rfl,qu rfl ws⟩,rfl,rfl,trivial⟩,by dsimp only;omega⟩;rw [et,zbR hbx,bl]
theorem zhF:([]:List Pix).length=0/\(0:Nat)<=281474976710656/\0*4<=16777216/\0 < 4/\∀y∈([]:List Pix),(kd y).length=4/\z0 (kd y)=true/\kz.flats (kd y)=true:=
 ⟨rfl,dC,dC,dC,fun _ h=>by cases h⟩
theorem zg8(m:Img)(n:Int)(hp:P8s m):zf Try.prog 32 [.agg (kj m),i64 n] [] (ze9 (kC m n)) []:=by
 refine za1 2 tok mix Try.func32 rfl rfl rfl ?_;refine ze.t (zgz m) ?_;unfold kC;refine Br.mk (fun h=>?_) (fun h=>?_)
 ·have h:¬qr m:=h;rw [if_pos h];exact yX v5 v6 .refl
 have h:¬¬qr m:=h;rw [if_neg h];have hm:qr m:=Classical.not_not.1 h;obtain ⟨N1,N2⟩:=zcA hm
 have bad:¬(1<=n/\n<=256)->LE (SV.tup [.val (.slice none 0 0),.val (.slice none 0 0),i64 2]) (ze9 (if ¬(1<=n/\n<=256) then (([],[]),2) else ((y5 m (yK m n.toNat),jg m.px.length (yK m n.toNat) (yK m n.toNat).length),0))):=fun h=>by
  rw [if_pos h];exact yX v5 v6 .refl
 refine Br.mk (fun g=>?_) (fun g=>?_)
 ·have g:n < 1:=g;exact bad oM
 have g:¬n < 1:=g;refine Br.mk (fun k=>?_) (fun k=>?_)
 ·have k:256 < n:=k;exact bad oM
 have k:¬256 < n:=k;clear bad;rw [if_neg oM];obtain ⟨N,rfl⟩:∃N:Nat,n=(N:Int):=⟨n.toNat,oM⟩;rw [Int.toNat_natCast];obtain ⟨bok,bln⟩:=zcy (m:=m) hp hm (n:=N) oM;have hbx:=zhC m N hp hm oM;generalize yK m N=bs at*;refine ze.t hbx ?_;refine ⟨Pix,kd,[],rfl,Ob.mk zhF ?_⟩;intro _;refine ⟨Int,zq,0,rfl,Ob.o2 ?_⟩
 refine ⟨Nat,fun i=>⟨[(10,i64 (i:Int)),(7,.sl zaZ bs),(9,.own 2),(8,.own 1),(2,.loc 0 0)],[(2,.arr 3 zq 1 (jg m.px.length bs i)),(1,.arr 37 kd 4 (y5 m (bs.take i))),(0,.box 28 (kj m))],3,94,0⟩,
  fun i=>i<=bs.length,fun i=>bs.length - i,0,Nat.zero_le _,?_,?_⟩
 ·exact kD [(0,some 0),(1,some 1),(2,some 2)] ⟨y4 (by show List.replicate (m.px.length:Int).toNat (0:Int)=_;rfl),pixc (by rw [List.take_zero];rfl),rfl,trivial⟩
 intro i hi;have hi:i<=bs.length:=hi;intro _;refine Br.mk (fun f=>?_) (fun f=>?_);rotate_left
 ·have f:¬(i:Int) < (bs.length:Int):=f;obtain rfl:i=bs.length:=oM;refine yX ?_ .refl .refl;show LE (.sl kd (y5 m (bs.take bs.length))) _;rw [List.take_length];exact .refl
 have f:(i:Int) < (bs.length:Int):=f;obtain ⟨bx,hbx⟩:∃b,bs[i]? =some b:=⟨_,List.getElem?_eq_getElem oM⟩;have hbd:bs.getD i []=bx:=by rw [List.getD_eq_getElem?_getD,hbx];rfl
 have get:∀b,bs[(i:Int).toNat]? =some b->b=bx:=fun b h=>by
  have h:bs[i]? =some b:=h;rw [hbx] at h;exact (Option.some.inj h).symm
 obtain ⟨b1,b2,b3⟩:=bok.2 _ (List.mem_of_getElem? hbx);have b1:0 < bx.length:=List.length_pos_iff.2 b1;have hidl:=u7 m.px.length bs i;have eid:jg m.px.length bs (i+1)=vO (jg m.px.length bs i) bx (i:Int):=by rw [jg,hbd]
 refine ⟨Int,zq,[0,0,0,0],rfl,Ob.mk (zdv _ _ _ _) ?_⟩
 refine ⟨Nat,fun j=>⟨[(12,i64 (j:Int)),(11,.own 3),(10,i64 (i:Int)),(7,.sl zaZ bs),(9,.own 2),(8,.own 1),(2,.loc 0 0)],
  [(3,.arr 3 zq 1 (qL (yk m (bx.take j)))),(2,.arr 3 zq 1 (vO (jg m.px.length bs i) (bx.take j) (i:Int))),(1,.arr 37 kd 4 (y5 m (bs.take i))),(0,.box 28 (kj m))],4,94,0⟩,
  fun j=>j<=bx.length,fun j=>bx.length - j,0,Nat.zero_le _,?_,?_⟩
 ·exact kD [(0,some 0),(1,some 1),(2,some 2),(3,some 3)] ⟨y4 (by rw [List.take_zero];rfl),y4 (by rw [List.take_zero];rfl),rfl,rfl,trivial⟩
 intro j hj;have hj:j<=bx.length:=hj;have hsum:=vZ ⟨hm,hp⟩ b2 j oM;refine Ob.o ?_;intro b hb;rw [get b hb];intro _;refine Br.mk (fun q=>?_) (fun q=>?_)
 ·have q:(j:Int) < (bx.length:Int):=q;refine Ob.o ?_;intro b hb;rw [get b hb];refine Ob.o ?_;intro x hx;have hbj:bx[j]? =some x:=hx;have hxr:=b2.at hbj;have hil:=za2 (bx.take j) (i:Int) (jg m.px.length bs i);refine Ob.mk (by rw [hil,hidl];exact hxr) ?_;refine Ob.mk (by rw [hil,hidl];exact hxr) ?_;intro _ _;refine ⟨(i:Int),rfl,?_⟩;have hpx:=zeZ ⟨hm,hp⟩ hxr;have hbig:=zeW hsum oM
  refine ⟨Nat,fun c=>⟨[(13,i64 (c:Int)),(12,i64 (j:Int)),(11,.own 3),(10,i64 (i:Int)),(7,.sl zaZ bs),(9,.own 2),(8,.own 1),(2,.loc 0 0)],
   [(3,.arr 3 zq 1 (qL (zbO (yk m (bx.take j)) (zbh m x) 1 c))),(2,.arr 3 zq 1 (vO (jg m.px.length bs i) (bx.take (j+1)) (i:Int))),(1,.arr 37 kd 4 (y5 m (bs.take i))),(0,.box 28 (kj m))],4,94,0⟩,
   fun c=>c<=4,fun c=>4 - c,0,Nat.zero_le _,?_,?_⟩
  ·exact kD [(0,some 0),(1,some 1),(2,some 2),(3,some 3)] ⟨rfl,y4 (zbS hbj).symm,rfl,rfl,trivial⟩
  intro v hv;have hv:v<=4:=hv;refine Br.mk (fun w=>?_) (fun w=>?_)
  ·have w:(v:Int) < 4:=w;refine Dr.d ?_;refine Ob.mk ⟨oM,by rw [zcv];exact w⟩ ?_;refine Ob.mk ⟨oM,by rw [zcv];exact w⟩ ?_;intro y hy;have hy:(qL (zbO (yk m (bx.take j)) (zbh m x) 1 v))[v]? =some y:=hy;refine Ob.o ?_;intro b hb;rw [get b hb];refine Ob.o ?_;intro x' hx';have hx':bx[j]? =some x':=hx';have exx:x'=x:=by rw [hbj] at hx';exact (Option.some.inj hx').symm
   rw [exx];refine Ob.mk hxr ?_;intro p hpp;have epx:=ze3 hpp;rw [epx] at hpx;refine ze.t (zcw p v hpx.1 oM) ?_;refine Ar.fit (zhy (by rw [(zhU hy).1];exact zim hbig v) (pL_8 hpx.1 v)) ?_;refine Ob.mk ⟨oM,by rw [zcv];exact w⟩ ?_;refine Ob.mk ⟨oM,by rw [zcv];exact w⟩ ?_;intro _ _;refine ⟨y+(pL p).getD v 0,rfl,?_⟩;refine Ob.mk (by kernel_rfl) ?_;refine Ar.o ?_;refine ⟨v+1,by show v+1<=4;omega,kD [(0,some 0),(1,some 1),(2,some 2),(3,some 3)] ⟨y4 ?_,rfl,rfl,rfl,trivial⟩,by show 4 - (v+1) < 4 - v;omega⟩;rw [← (zhU hy).2,Int.one_mul,epx];rfl
  ·have w:¬(v:Int) < 4:=w;have hv4:v=4:=oM;refine Ar.o ?_;refine ⟨j+1,by show j+1<=bx.length;omega,kD [(0,some 0),(1,some 1),(2,some 2),(3,some 3)] ⟨y4 ?_,rfl,rfl,rfl,trivial⟩,by dsimp only;omega⟩;rw [vv hbj,hv4];rfl
 ·have q:¬(j:Int) < (bx.length:Int):=q;obtain rfl:j=bx.length:=oM;refine Ob.o ?_;intro b hb;rw [get b hb];intro _;refine ze.t (zin (yk m (bx.take bx.length)) (bx.length:Int) hsum oM) ?_;refine ⟨Pix,kd,[zbg (yk m (bx.take bx.length)) (bx.length:Int)],rfl,Ob.mk (zgM _) ?_⟩;refine ⟨[zbg (yk m (bx.take bx.length)) (bx.length:Int)],rfl,Ob.mk (zgN (by rw [u6,List.length_take];omega)) ?_⟩;refine Ar.o ?_
  refine ⟨i+1,by show i+1<=bs.length;omega,kD [(0,some 0),(1,some 5),(2,some 2)] ⟨y4 (by rw [List.take_length,eid]),pixc ?_,rfl,trivial⟩,by dsimp only;omega⟩;rw [List.take_length,zbR hbx]
theorem zhG(a b:List Int):zf Try.prog 33 [.sl zq a,.sl zq b] [] (pr (a=b)) []:=by
 refine zh tok mix Try.func33 rfl rfl rfl ?_;intro hl1 hl2;refine Br.mk (fun h=>zD fun e=>h (by rw [e])) (fun h=>?_)
 have h:a.length=b.length:=by
  have h:¬¬(a.length:Int)=b.length:=h;omega
 intro hl3;refine ⟨Nat,fun i=>⟨[(13,i64 (i:Int)),(12,i64 (a.length:Int)),(1,.sl zq b),(0,.sl zq a)],[],0,26,0⟩,fun i=>i<=a.length/\a.take i=b.take i,fun i=>a.length - i,0,⟨Nat.zero_le _,rfl⟩,?_,?_⟩
 ·exact zo []
 rintro i ⟨h1,h2⟩
 refine Br.mk (fun g=>?_) (fun g=>?_)
 ·have g:(i:Int) < a.length:=g;refine Dr.k ?_;refine Ob.o ?_;intro x hx;have hx:a[i]? =some x:=hx;refine Ob.o ?_;intro y hy;have hy:b[i]? =some y:=hy;refine Br.mk (fun k=>zD fun e=>?_) (fun k=>?_)
  ·have k:¬x=y:=k;exact k (by rw [e] at hx;exact Option.some.inj (hx.symm.trans hy))
  have k:¬¬x=y:=k;have k:x=y:=Decidable.not_not.1 k;refine Ar.o ?_;exact ⟨i+1,⟨oM,by rw [List.take_add_one,List.take_add_one,hx,hy,h2,k]⟩,zo [],by dsimp only;omega⟩
 ·have g:¬(i:Int) < a.length:=g;refine yU ?_;rw [List.take_of_length_le oM,List.take_of_length_le oM] at h2;exact h2
theorem zek{m:Img}{n:Int}(hp:P8s m)(h:(kC m n).2=0):
  (1<=(kC m n).1.1.length/\((kC m n).1.1.length:Int)<=n)/\(kC m n).1.2.length=m.px.length/\(∀p∈(kC m n).1.1,jw p)/\∀x∈(kC m n).1.2,0<=x/\x < ((kC m n).1.1.length:Int):=by
 unfold kC at h ⊢
 split at h
 ·exact absurd h dC
 rename_i h1
 split at h
 ·exact absurd h dC
 rename_i h2;rw [if_neg h1,if_neg h2];have hm:qr m:=Classical.not_not.1 h1;obtain ⟨b1,b2⟩:=zcy hp hm (n:=n.toNat) oM;have:=List.length_pos_iff.2 b1.1;refine ⟨by dsimp only;rw [u6];omega,u7 _ _ _,fun p hp'=>(zir ⟨hm,hp⟩ b1 p hp').2,fun x hx=>?_⟩;dsimp only;rw [u6];exact ze8 _ _ b1.1 _ (Nat.le_refl _) x hx
theorem c_law9(m:Img)(n:Int)(hp:P8s m):zf Try.prog 9 [.agg (kj m),i64 n] [] (bl true) []:=by
 refine zh tok mix Try.func9 rfl rfl rfl ?_;intro hl0;have ca:=zhE m n hl0 hp;have cb:=zg8 m n hp;have fc:=zek (n:=n) hp;generalize kC m n=c at*;obtain ⟨⟨p,l⟩,e⟩:=c;have ca:zf Try.prog 31 [.agg (kj m),i64 n] [] (.tup [.sl kd p,.sl zq l,i64 e]) []:=ca;have cb:zf Try.prog 32 [.agg (kj m),i64 n] [] (.tup [.sl kd p,.sl zq l,i64 e]) []:=cb;have fc:e=0->(1<=p.length/\(p.length:Int)<=n)/\l.length=m.px.length/\(∀q∈p,jw q)/\∀x∈l,0<=x/\x < (p.length:Int):=fc;refine Br.mk (fun _=>ze.to _ vp rfl .refl) (fun _=>?_);refine ze.t ca ?_
 refine ze.t cb ?_;refine Br.mk (fun k=>absurd rfl k) (fun _=>?_);refine ze.t (zgB ⟨0,0,p⟩ ⟨0,0,p⟩) ?_;refine Br.mk (fun k=>absurd rfl k) (fun _=>?_);refine ze.t (zhG l l) ?_;refine Br.mk (fun k=>absurd rfl k) (fun _=>?_);refine Br.mk (fun _=>ze.to _ vp rfl .refl) (fun he=>?_);have he:¬¬e=0:=he;obtain ⟨⟨f1,f2⟩,f3,f4,f5⟩:=fc (Decidable.not_not.1 he);intro _;refine Br.mk (fun k=>?_) (fun _=>?_)
 ·have k:(p.length:Int) < 1:=k;omega
 intro _;refine Br.mk (fun k=>?_) (fun _=>?_)
 ·have k:n < (p.length:Int):=k;omega
 intro _ _;refine Br.mk (fun k=>?_) (fun _=>?_)
 ·have k:¬(l.length:Int)=(m.px.length:Int):=k;omega
 intro pl;have pl:p.length<=9223372036854775807:=pl;refine ⟨Nat,fun i=>⟨[(71,i64 (i:Int)),(70,i64 (p.length:Int)),(5,.sl kd p),(6,.sl zq l)],[],0,102,0⟩,fun i=>i<=p.length,fun i=>p.length - i,0,Nat.zero_le _,?_,?_⟩
 ·exact zo []
 intro i hi;have hi:i<=p.length:=hi;refine Br.mk (fun g=>?_) (fun g=>?_)
 ·have g:(i:Int) < (p.length:Int):=g;refine Ob.o ?_;intro x hx;refine ze.t (zbJ x) ?_;refine Br.mk (fun k=>absurd (f4 x (List.mem_of_getElem? hx)) k) (fun _=>?_);refine Ar.o ?_;exact ⟨i+1,by show i+1<=p.length;omega,zo [],by dsimp only;omega⟩
 intro ll;have ll:l.length<=9223372036854775807:=ll;refine ⟨Nat,fun i=>⟨[(83,i64 (i:Int)),(82,i64 (l.length:Int)),(5,.sl kd p),(6,.sl zq l)],[],0,102,0⟩,fun i=>i<=l.length,fun i=>l.length - i,0,Nat.zero_le _,?_,?_⟩
 ·exact zo []
 intro j hj;have hj:j<=l.length:=hj;refine Br.mk (fun g=>?_) (fun g=>?_)
 ·have g:(j:Int) < (l.length:Int):=g;refine Ob.o ?_;intro x hx;obtain ⟨x1,x2⟩:=f5 x (List.mem_of_getElem? hx);refine Br.mk (fun k=>?_) (fun _=>?_)
  ·have k:x < 0:=k;omega
  refine Ob.o ?_;intro y hy;obtain ⟨y1,y2⟩:=f5 y (List.mem_of_getElem? hy);intro _;refine Br.mk (fun k=>?_) (fun _=>?_)
  ·have k:(p.length:Int)<=y:=k;omega
  refine Ar.o ?_;exact ⟨j+1,by show j+1<=l.length;omega,zo [],by dsimp only;omega⟩
 refine ze.t vp ?_;exact .refl
theorem law_walk' {P:Program} {f:FuncId} {args:List SV} {vs:List Value} {w:World} (h:zf P f args [] (bl true) [])
  (hg:∀S Pm:Nat->Prop,(∀b,¬S b)->(∀b,¬Pm b)->Gs S Pm (fun _=>none) w args vs) (hgl:∀g v,GL g v->w.cell? ⟨g,0,none⟩=some v:=by intro _ _ h;cases h):
  Calls P f vs.toArray w fun e w'=>e=.returned (.bool true)/\RowKit.Grown w w'/\RowKit.Below w.heap.size w w':=by
 refine (h.2 (fun _=>False) (fun _=>none) w vs (fun _ h=>h.elim) (kV (fun _ h=>h.elim) hgl) (fun _ _=>rfl) (hg _ _ (fun b hb=>hb.elim id zw) (fun b=>zw))).mono ?_
 rintro e w' ⟨v,ρ',rfl,hs,_,hv⟩
 refine ⟨by rw [hv.val_inv],⟨⟨hs.os,hs.output.1,fun i hi=>?_⟩,hs.output.2,hs.size⟩,⟨hs.os,hs.tape,hs.output.1,hs.size,fun i hi=>hs.block i hi zw⟩⟩;rw [hs.block i hi zw]
 cases w.heap[i]? with
 | none=>rfl
 | some o=>cases o <;> simp
theorem r64{n:Int}(h:(Lit.int .i64 n).wf=true):R64 n:=by
 simp only [Lit.wf,Bool.and_eq_true,decide_eq_true_eq] at h;exact h
theorem r8{n:Int}(h:(Lit.int .u8 n).wf=true):R8 n:=by
 simp only [Lit.wf,Bool.and_eq_true,decide_eq_true_eq] at h;exact h
end Go.Gs
