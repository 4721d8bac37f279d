/- Boxes, their extents, how they are sorted and cut: the other text's. -/
import Derived.Test.YtjfbljononkmcaaMA
import Derived.Test.YtjfbljononkmcaaMAY
import Derived.Test.YtjfbljononkmcaaMAQ
import Derived.Test.YtjfbljononkmcaaMAW
import Derived.Test.YtjfbljononkmcaaMAS
set_option maxRecDepth 100000
set_option maxHeartbeats 8000000
set_option linter.all false
namespace Go.Gs
open Go.Proofs
theorem arrc{l l':List Int}(h:l=l'):some (Mem.arr 3 zq 1 l)=some (Mem.arr 3 zq 1 l'):=by rw [h]
def u5(prev:SV->SV)(lm:Nat->Option Mem):SV->SV
 |.loc k off=>(match lm k with
  | some (.box _ cs)=>.dptr ((cs.map prev).drop off)
  | _=>.junk)
 |.own k=>(match lm k with
  | some (.arr _ enc _ xs)=>.sl enc xs
  | _=>.junk)
 | .fn f cs=>.dfn f (frzs prev lm cs)
 | .agg cs=>.agg (frzs prev lm cs)
 | .ifc t s=>.ifc t (u5 prev lm s)
 | .val v=>.val v
 | .pr p i=>.pr p i
 | .sl enc xs=>.sl enc xs
 | .dptr cs=>.dptr cs
 | .dfn f cs=>.dfn f cs
 | .bm f cs=>.bm f cs
 | .op v=>.op v
 | .nils=>.nils
 | .anyb=>.anyb
 | .full enc xs=>.full enc xs
 | _=>.junk
 where
 frzs (prev:SV->SV) (lm:Nat->Option Mem):List SV->List SV
  | []=>[]
  | c::cs=>u5 prev lm c::frzs prev lm cs
def frz(lm:Nat->Option Mem):Nat->SV->SV
 | 0=>u5 (fun _=>.junk) lm
 | n+1=>u5 (frz lm n) lm
def frzR(lm:Nat->Option Mem)(n:Nat)(s:SV):SV:=
 match s with
 | .tup cs=>.tup (cs.map (frz lm n))
 | s=>frz lm n s
theorem za0(prev:SV->SV)(lm:Nat->Option Mem):∀cs,u5.frzs prev lm cs=cs.map (u5 prev lm)
 | []=>rfl
 | c::cs=>by rw [u5.frzs,za0 prev lm cs];rfl
section
variable {Keep:Nat->Prop} {M:List (Nat×Mem)} {ρ:zd} {w:World} {lm:Nat->Option Mem}
theorem zg6 (hlm:∀k m,lm k=some m->(k,m)∈M) (hm:zj Keep M ρ w) {prev:SV->SV}
  (hp:∀{s:SV} {v:Value},G (fun b=>Keep b∨Own M ρ b) (Own M ρ) ρ w s v->D Keep w (prev s) v):
  ∀(s:SV) {v:Value},G (fun b=>Keep b∨Own M ρ b) (Own M ρ) ρ w s v->D Keep w (u5 prev lm s) v:=by
 have hsub:∀b,Keep b->Keep b∨Own M ρ b:=fun b h=>.inl h
 intro s
 induction s using SV.rec (motive_2:=fun cs=>∀{vs:List Value},Gs (fun b=>Keep b∨Own M ρ b) (Own M ρ) ρ w cs vs->∀(j:Nat) (s:SV) (v:Value),(u5.frzs prev lm cs)[j]? =some s->vs[j]? =some v->D Keep w s v) with
 | val v=>intro u hg;rw [hg.val_inv];exact .val v
 | pr p i=>intro u hg;rw [hg.pr_inv];exact .pr p i
 | sl enc xs=>intro u hg;exact hg.sl_inv.less hsub
 | nils=>intro u hg;obtain ⟨a,rfl⟩:=hg.nils_inv;exact .nils a
 | anyb=>intro u hg;obtain ⟨b,rfl⟩:=hg.anyb_inv;exact .anyb b
 | full enc xs=>intro u hg;obtain ⟨a,rfl,hd⟩:=hg.full_inv;exact .full enc xs a (hd.less hsub)
 | dptr cs _=>intro u hg;cases hg with | d _ _ h=>exact h.less hsub
 | dfn f cs _=>intro u hg;cases hg with | d _ _ h=>exact h.less hsub
 | bm f cs _=>intro u hg;cases hg with | d _ _ h=>exact h.less hsub
 | op v=>intro u hg;cases hg with | d _ _ h=>exact h.less hsub
 | ifc t s ih=>
  intro u hg;obtain ⟨v,rfl,hv⟩:=hg.ifc_inv;exact .ifc t _ v (ih hv)
 | agg cs ih=>
  intro u hg;obtain ⟨vs,rfl,hvs⟩:=hg.agg_inv;exact .agg _ vs (by rw [za0,List.length_map];exact hvs.1) (ih hvs)
 | fn f cs ih=>
  intro u hg;obtain ⟨vs,rfl,hvs⟩:=hg.fn_inv;exact .dfn f _ vs (by rw [za0,List.length_map];exact hvs.1) (ih hvs)
 | loc k off=>
  intro u hg;obtain ⟨b,hρ,rfl⟩:=hg.loc_inv;simp only [u5]
  split
  ·rename_i T cs hk;have hmem:=hlm k _ hk;obtain ⟨b',vs,h1,h2,h3,h4,h5⟩:=hm.rel k _ hmem;rw [hρ] at h1;cases h1
   have hb:=hm.old b ⟨k,_,_,hmem,hρ,rfl⟩;refine .dptr _ b off (fun j=>(vs[off+j]?).getD undef) hb.1 hb.2 (fun j hj=>?_) (fun j s hs=>?_)
   ·have hj':off+j < vs.length:=by simp at hj;omega
    rw [uy h2];simp only [List.getElem?_eq_getElem hj',Option.getD_some];exact ⟨trivial,h4 _ (List.getElem_mem hj')⟩
   ·rw [List.getElem?_drop,List.getElem?_map] at hs
    cases hc:cs[off+j]? with
    | none=>simp [hc] at hs
    | some c=>
     simp [hc] at hs;subst hs;have hj':off+j < vs.length:=by have:=(List.getElem?_eq_some_iff.1 hc).1;omega
     rw [List.getElem?_eq_getElem hj',Option.getD_some];exact hp (h5 _ c _ hc (List.getElem?_eq_getElem hj'))
  ·exact .junk _
 | own k=>
  intro u hg;obtain ⟨hρ,h1⟩:=hg.own_inv;simp only [u5]
  split
  ·rename_i T α enc sz xs hk;have hmem:=hlm k _ hk;exact zal hm hmem (fun b hb=>.inl hb) (fun v b hv hb hk=>(hm.old b ⟨k,_,v,hmem,hv,hb⟩).2 hk) hρ
  ·exact .junk _
 | ptr cs _=>intro u _;exact .junk _
 | eloc _ _ _ _=>intro u _;exact .junk _
 | win _ _ _ _=>intro u _;exact .junk _
 | tup cs _=>intro u _;exact .junk _
 | junk=>intro u _;exact .junk _
 | nil=>rename_i vs _ j s v h _;simp [u5.frzs] at h
 | cons c cs ihc ihcs=>
  rename_i vs hg j s v h hv;obtain ⟨v0,vs',rfl,h1,h2⟩:=hg.cons_inv
  cases j with
  | zero=>simp [u5.frzs] at h hv;subst h;subst hv;exact ihc h1
  | succ j=>exact ihcs h2 j s v (by simpa [u5.frzs] using h) (by simpa using hv)
theorem zhX(hlm:∀k m,lm k=some m->(k,m)∈M)(hm:zj Keep M ρ w):∀(n:Nat) {s:SV} {v:Value},G (fun b=>Keep b∨Own M ρ b) (Own M ρ) ρ w s v->D Keep w (frz lm n s) v
 | 0,s,_,h=>zg6 hlm hm (fun _=>.junk _) s h
 | n+1,s,_,h=>zg6 hlm hm (fun h=>zhX hlm hm n h) s h
end
def endF(n:Nat)(Γ:List (TypeId×TI))(rs:List ResultVar)(r:SV)(e:Ex)(σ:St):Prop:=
 match e with
 | .exit _=>False
 | _=>vH σ Γ rs fun s=>LE (frzR (zl σ.M) n s) r
theorem za1 (n:Nat) {P:Program} {Γ:List (TypeId×TI)} (hT:TOK P Γ) (hm:P.follows .mixedOrders=true) {f:FuncId} {fn:Func} {c:Code} {args:List SV} {r:SV}
  (hf:P.funcs[f]? =some fn) (hb:fn.body=some c) (hn:(fn.name== "runtime.NumGoroutine")=false) (hle:Nat.ble args.length fn.ntmps=true)
  (h:jX P Γ c ⟨qq 0 args,[],0,fn.ntmps,0⟩ (endF n Γ fn.results.toList r)):zf P f args [] r []:=by
 refine jF hT hm hf hb hn hle h (fun e σ h=>⟨σ,.refl,h⟩) (fun e σ hq he=>?_) (fun id σ hq=>hq)
 have hq:vH σ Γ fn.results.toList fun s=>LE (frzR (zl σ.M) n s) r:=by
  cases e with
  | exit id=>exact absurd rfl (he id)
  | normal=>exact hq
  | ret=>exact hq
 obtain ⟨s,hle,h1⟩:=jE hT hq;refine ⟨s,h1,fun {E ρ a w v} hr hW _ hg=>⟨ρ,?_,?_,?_⟩⟩
 ·have hs:=hr.stp;exact ⟨hs.os,hs.tape,hs.output,hs.size,fun b hb hn=>hs.block b hb fun h=>hn ((hW b).1 h),fun b hb=>absurd hb zw,hs.rho⟩
 ·exact (kV hr.mem.kp fun _ _ h=>hr.mem.glc h)
 ·have hd:∀{s:SV} {v:Value},G (fun b=>E.Keep b∨Own σ.M ρ b) (Own σ.M ρ) ρ w s v->D (fun b=>E.Keep b∨Own [] ρ b) w (frz (zl σ.M) n s) v:=fun h=>
   (zhX (fun k m h=>zg h) hr.mem n h).less fun b hb=>hb.resolve_right zw
  refine hle _ _ _ _ _ ?_;unfold frzR
  split
  ·rename_i cs;obtain ⟨vs,rfl,hvs⟩:=hg.tup_inv;refine .tup _ vs (by rw [List.length_map];exact hvs.1) fun j s v hs hv=>?_
   rw [List.getElem?_map] at hs
   cases hc:cs[j]? with
   | none=>simp [hc] at hs
   | some c=>
    simp [hc] at hs;subst hs;exact .d _ _ (hd (hvs.2 j c v hc hv))
  ·exact .d _ _ (hd hg)
def yk(m:Img)(b:List Int):Qd:=b.foldl (fun q x=>zfD q (zbh m x) 1) zQ
theorem vv{m:Img}{b:List Int}{j:Nat}{x:Int}(h:b[j]? =some x):yk m (b.take (j+1))=zfD (yk m (b.take j)) (zbh m x) 1:=by
 unfold yk;rw [List.take_add_one,h,Option.toList_some,List.foldl_append];rfl
theorem vZ{m:Img}(hm:okM m){b:List Int}(hb:InP m b):∀j:Nat,j<=b.length->inQ (yk m (b.take j)) j
 | 0,_=>by rw [List.take_zero];exact zgC
 | j+1,h=>by
  have hx:=List.getElem?_eq_getElem (show j < b.length by omega);have hp:=zeZ hm (hb.at hx);rw [vv hx];have:=zhr (vZ hm hb j oM) hp.1 hp.2 (show (0:Int)<=1 by decide);rw [Int.natCast_add];exact this
def y5(m:Img)(bs:List (List Int)):List Pix:=bs.map fun b=>zbg (yk m b) (b.length:Int)
theorem u6(m:Img)(bs:List (List Int)):(y5 m bs).length=bs.length:=by simp [y5]
theorem zbR{m:Img}{bs:List (List Int)}{i:Nat}{b:List Int}(h:bs[i]? =some b):y5 m (bs.take (i+1))=y5 m (bs.take i)++[zbg (yk m b) (b.length:Int)]:=by
 unfold y5;rw [List.take_add_one,h,Option.toList_some,List.map_append];rfl
def vO(idx b:List Int)(i:Int):List Int:=b.foldl (fun a x=>a.set x.toNat i) idx
theorem za2(b:List Int)(i:Int):∀idx:List Int,(vO idx b i).length=idx.length:=by
 induction b with
 | nil=>exact fun _=>rfl
 | cons x b ih=>
  intro idx;show (vO (idx.set x.toNat i) b i).length=_;rw [ih,List.length_set]
theorem zbS{idx b:List Int}{i:Int}{j:Nat}{x:Int}(h:b[j]? =some x):vO idx (b.take (j+1)) i=(vO idx (b.take j) i).set x.toNat i:=by
 unfold vO;rw [List.take_add_one,h,Option.toList_some,List.foldl_append];rfl
def jg(N:Nat)(bs:List (List Int)):Nat->List Int
 | 0=>List.replicate N 0
 | k+1=>vO (jg N bs k) (bs.getD k []) (k:Int)
theorem u7(N:Nat)(bs:List (List Int)):∀k,(jg N bs k).length=N
 | 0=>by simp [jg]
 | k+1=>by rw [jg,za2,u7 N bs k]
def kC(m:Img)(n:Int):(List Pix×List Int)×Int:=
 if ¬qr m then (([],[]),16) else if ¬(1<=n/\n<=256) then (([],[]),2) else ((y5 m (yK m n.toNat),jg m.px.length (yK m n.toNat) (yK m n.toNat).length),0)
def ze9(q:(List Pix×List Int)×Int):SV:=.tup [.sl kd q.1.1,.sl zq q.1.2,i64 q.2]
theorem v5:LE (.val (.slice none 0 0)) (.sl kd []):=fun _ _ _ _ _ hg=>by
 rw [hg.val_inv];exact .d _ _ (.nil _ _)
theorem v6:LE (.val (.slice none 0 0)) (.sl zq []):=fun _ _ _ _ _ hg=>by
 rw [hg.val_inv];exact .d _ _ (.nil _ _)
theorem yX{a b c a' b' c':SV}(h1:LE a a')(h2:LE b b')(h3:LE c c'):LE (.tup [a,b,c]) (.tup [a',b',c']):=by
 refine zd6 ?_;exact .cons h1 (.cons h2 (.cons h3 .nil))
theorem zg7{tb:List (Nat×Option Nat)}(h:qR tb 1=some (some 3))(ws:List (Nat×Nat)):((qt ws).map (k6.rens [] 2)).length=(qt ws).length/\∀(i:Nat) (x:List SV),(qt ws)[i]? =some x->∃x',((qt ws).map (k6.rens [] 2))[i]? =some x'/\ren.rens tb x=some x':=by
 refine ⟨List.length_map ..,fun i x hx=>?_⟩;obtain ⟨u,_,rfl⟩:=yW hx;refine ⟨_,by rw [List.getElem?_map,hx];rfl,?_⟩;simp only [ren.rens,ren,h];rfl
theorem pixc{l l':List Pix}(h:l=l'):some (Mem.arr 37 kd 4 l)=some (Mem.arr 37 kd 4 l'):=by rw [h]
theorem boxQ{q q':Qd}(h:q=q'):some (Mem.box 75 (qdE q))=some (Mem.box 75 (qdE q')):=by rw [h]
theorem zhE(m:Img)(n:Int)(hl:m.px.length<=9223372036854775807)(hp:P8s m):zf Try.prog 31 [.agg (kj m),i64 n] [] (ze9 (kC m n)) []:=by
 refine za1 2 tok mix Try.func31 rfl rfl rfl ?_;refine ze.t (zeP m hl) ?_;unfold kC;refine Br.mk (fun h=>?_) (fun h=>?_)
 ·have h:¬qr m:=h;rw [if_pos h];exact yX v5 v6 .refl
 have h:¬¬qr m:=h;rw [if_neg h];have hm:qr m:=Classical.not_not.1 h;obtain ⟨N1,N2⟩:=zcA hm
 have bad:¬(1<=n/\n<=256)->LE (SV.tup [.val (.slice none 0 0),.val (.slice none 0 0),i64 2]) (ze9 (if ¬(1<=n/\n<=256) then (([],[]),2) else ((y5 m (yK m n.toNat),jg m.px.length (yK m n.toNat) (yK m n.toNat).length),0))):=fun h=>by
  rw [if_pos h];exact yX v5 v6 .refl
 refine Br.mk (fun g=>?_) (fun g=>?_)
 ·have g:n < 1:=g;exact bad oM
 have g:¬n < 1:=g;refine Br.mk (fun k=>?_) (fun k=>?_)
 ·have k:256 < n:=k;exact bad oM
 have k:¬256 < n:=k;clear bad;rw [if_neg oM];obtain ⟨N,rfl⟩:∃N:Nat,n=(N:Int):=⟨n.toNat,oM⟩;rw [Int.toNat_natCast];obtain ⟨cw,wsok⟩:=zg1 hp hm N1 N;obtain ⟨bok,bln⟩:=zcy (m:=m) hp hm (n:=N) oM;have hcut:=c_cut m N hp hm oM;rw [← cw] at bok bln ⊢;generalize (zbi m N).1=l at*;generalize (zbi m N).2=ws at*;intro _;refine ⟨Int,zq,0,rfl,Ob.o2 ?_⟩;refine ze.give [] 2 [.agg (kj m),i64 (N:Int)] [] (Mws l ws) (.own 0) hcut LEs.refl rfl rfl rfl trivial rfl ⟨⟨rfl,zdF ws⟩,⟨rfl,trivial⟩,trivial⟩ ?_;intro _
 have hml:((qt ws).map (k6.rens [] 2)).length=ws.length:=by rw [List.length_map,qI]
 have hml':((qt ws).map (k6.rens [] (0+1+1))).length=ws.length:=hml;rw [hml'];have eb:(zI l ws).length=ws.length:=qJ l ws;rw [eb] at bln
 refine ⟨Nat,fun i=>⟨[(31,i64 (i:Int)),(30,i64 (ws.length:Int)),(29,.own 2),(8,.own 3),(7,.own 4),(2,.loc 0 0)],[(4,.arr 37 kd 4 (y5 m ((zI l ws).take i))),(3,.arr 3 zq 1 (jg m.px.length (zI l ws) i)),(2,.garr 53 1 (qt ws)),(1,.arr 3 zq 1 l),(0,.box 28 (kj m))],5,63,0⟩,
  fun i=>i<=ws.length,fun i=>ws.length - i,0,Nat.zero_le _,?_,?_⟩
 ·exact kD [(0,some 0),(1,some 3),(2,some 2),(3,some 1),(4,none)] ⟨by rw [List.take_zero];rfl,arrc (by show List.replicate (m.px.length:Int).toNat (0:Int)=_;rfl),⟨_,rfl,zg7 rfl ws⟩,rfl,rfl,trivial⟩
 intro i hi;have hi:i<=ws.length:=hi;refine Br.mk (fun f=>?_) (fun f=>?_);rotate_left
 ·have f:¬(i:Int) < (ws.length:Int):=f;obtain rfl:i=ws.length:=oM;have e1:(zI l ws).take ws.length=zI l ws:=List.take_of_length_le oM;refine yX ?_ ?_ .refl
  ·show LE (.sl kd (y5 m ((zI l ws).take ws.length))) _;rw [e1];exact .refl
  ·show LE (.sl zq (jg m.px.length (zI l ws) ws.length)) _;rw [eb];exact .refl
 have f:(i:Int) < (ws.length:Int):=f;refine Ob.mk (by rw [qI];omega) ?_;refine Ob.mk (by rw [qI];omega) ?_;intro x hx;obtain ⟨u,hu,hx⟩:=yW hx;have hu:ws[i]? =some u:=hu;rw [hx];obtain ⟨u1,u2⟩:=wsok.2 u (List.mem_of_getElem? hu);have hbx:(zI l ws)[i]? =some (seg l u.1 (u.1+u.2)):=by unfold zI;rw [List.getElem?_map,hu];rfl
 have hbd:(zI l ws).getD i []=seg l u.1 (u.1+u.2):=uZ hu;obtain ⟨b1,b2,b3⟩:=bok.2 _ (List.mem_of_getElem? hbx);have bl:(seg l u.1 (u.1+u.2)).length=u.2:=by rw [z5 u2];omega
 have hidl:=u7 m.px.length (zI l ws) i;have eid:jg m.px.length (zI l ws) (i+1)=vO (jg m.px.length (zI l ws) i) (seg l u.1 (u.1+u.2)) (i:Int):=by rw [jg,hbd]
 have ats:∀j:Nat,j < u.2->∀x,l[u.1+j]? =some x->(seg l u.1 (u.1+u.2))[j]? =some x:=fun j hj x hx=>by
  unfold seg;rw [List.getElem?_take,if_pos oM,List.getElem?_drop];exact hx
 generalize seg l u.1 (u.1+u.2)=bx at*;refine Ob.o ?_
 refine ⟨Nat,fun j=>⟨[(38,i64 (j:Int)),(37,i64 (u.2:Int)),(36,.win 1 1 (u.1:Int) (u.2:Int)),(11,.loc 5 0),(9,i64 (i:Int)),(10,.win 1 1 (u.1:Int) (u.2:Int)),(31,i64 (i:Int)),(30,i64 (ws.length:Int)),(29,.own 2),(8,.own 3),(7,.own 4),(2,.loc 0 0)],
  [(5,.box 75 (qdE (yk m (bx.take j)))),(4,.arr 37 kd 4 (y5 m ((zI l ws).take i))),(3,.arr 3 zq 1 (vO (jg m.px.length (zI l ws) i) (bx.take j) (i:Int))),(2,.garr 53 1 (qt ws)),(1,.arr 3 zq 1 l),(0,.box 28 (kj m))],6,63,0⟩,
  fun j=>j<=u.2,fun j=>u.2 - j,0,Nat.zero_le _,?_,?_⟩
 ·exact kD [(0,some 0),(1,some 1),(2,some 2),(3,some 3),(4,some 4),(5,some 5)] ⟨boxQ (q:=zQ) (q':=yk m (bx.take 0)) (by rw [List.take_zero];rfl),rfl,arrc (by rw [List.take_zero];rfl),⟨_,rfl,rfl,qu rfl ws⟩,rfl,rfl,trivial⟩
 intro j hj;have hj:j<=u.2:=hj;have hsum:=vZ ⟨hm,hp⟩ b2 j oM;refine Br.mk (fun q=>?_) (fun q=>?_)
 ·have q:(j:Int) < (u.2:Int):=q;refine Ob.o ?_;refine Ob.o ?_;intro x hx;rw [show ((u.1:Int)+(j:Int)).toNat=u.1+j by omega] at hx;have hbj:=ats j oM x hx;have hxr:=b2.at hbj;refine Ob.mk hxr ?_;intro p hpx;have hpx:m.px[x.toNat]? =some p:=hpx;have epx:=ze3 hpx;refine ze.hand 5 _ _ _ rfl (zil (yk m (bx.take j)) p 1 (zeW hsum oM) (ze4 hp hpx) dC) rfl rfl rfl rfl ?_;have hil:=za2 (bx.take j) (i:Int) (jg m.px.length (zI l ws) i);refine Ob.mk (by rw [hil,hidl];exact hxr) ?_;refine Ob.mk (by rw [hil,hidl];exact hxr) ?_;intro _ _
  refine ⟨(i:Int),rfl,?_⟩;refine Ar.o ?_;refine ⟨j+1,by show j+1<=u.2;omega,kD [(0,some 0),(1,some 1),(2,some 2),(3,some 3),(4,some 4),(5,some 5)] ⟨boxQ (by rw [vv hbj,epx]),rfl,arrc (zbS hbj).symm,⟨_,rfl,rfl,qu rfl ws⟩,rfl,rfl,trivial⟩,by dsimp only;omega⟩
 ·have q:¬(j:Int) < (u.2:Int):=q;obtain rfl:j=u.2:=oM;have et:bx.take u.2=bx:=List.take_of_length_le oM;refine Ob.o ?_;refine ze.t (zki (yk m (bx.take u.2)) (u.2:Int) hsum oM) ?_;refine ⟨Pix,kd,[zbg (yk m (bx.take u.2)) (u.2:Int)],rfl,Ob.mk (zgM _) ?_⟩;refine ⟨[zbg (yk m (bx.take u.2)) (u.2:Int)],rfl,Ob.mk (zgN (by rw [u6,List.length_take];omega)) ?_⟩;refine Ar.o ?_
  refine ⟨i+1,by show i+1<=ws.length;omega,kD [(0,some 0),(1,some 1),(2,some 2),(3,some 3),(4,some 7)] ⟨pixc ?_,arrc (by rw [et,eid]),⟨_,rfl,rfl,qu rfl ws⟩,rfl,rfl,trivial⟩,by dsimp only;omega⟩;rw [et,zbR hbx,bl]
theorem zi5{n x:Int}(hx:0<=x)(hn:0 < n):kM (n*x) n=x:=by
 rw [zaV (Int.mul_nonneg oM hx) hn,show 2*(n*x)+n=n+2*n*x by rw [Int.mul_assoc];omega,Int.add_mul_ediv_left _ _ oM];rw [Int.ediv_eq_zero_of_lt oM oM];omega
theorem zi6{p:Pix}(hp:P8 p){n:Int}(hn:0 < n):zbg (zfD zQ p n) n=p:=by
 obtain ⟨p1,p2,p3,p4⟩:=hp;unfold zbg zfD zQ;dsimp only;rw [Int.zero_add,Int.zero_add,Int.zero_add,Int.zero_add,zi5 p1.1 hn,zi5 p2.1 hn,zi5 p3.1 hn,zi5 p4.1 hn]
theorem zi7(q:Qd)(p:Pix)(a b:Int):zfD (zfD q p a) p b=zfD q p (a+b):=by
 unfold zfD;dsimp only;rw [Int.add_mul,Int.add_mul,Int.add_mul,Int.add_mul];simp only [Int.add_assoc]
theorem zjq(u:Int×Int):∀l:List (Int×Int),ziw (u::l)=u.2+ziw l:=fun l=>by
 have key:∀(l:List (Int×Int)) (a:Int),l.foldl (fun s u=>s+u.2) a=a+ziw l:=fun l=>by
  induction l with
  | nil=>intro a;show a=a+0;omega
  | cons v l ih=>intro a;unfold ziw;rw [List.foldl_cons,List.foldl_cons,ih,ih (0+v.2)];omega
 show l.foldl _ (0+u.2)=_;rw [key];omega
theorem zjC{m:Img}{v:Int×Int}{p:Pix}:∀{l:List (Int×Int)} {q:Qd},(∀u∈l,zbh m (v.1*m.w+u.1)=p)->ziP m v q l=zfD q p (ziw l*v.2)
 | [],q,_=>by show q=zfD q p (0*v.2);rw [Int.zero_mul,zja]
 | u::l,q,h=>by
  show ziP m v (zfD q (zbh m (v.1*m.w+u.1)) (u.2*v.2)) l=_;rw [zjC (fun u hu=>h u (.tail _ hu)),h u (.head _),zi7,zjq,Int.add_mul]
theorem zjD{m:Img}{p:Pix}{cols:List (Int×Int)}:∀{l:List (Int×Int)} {q:Qd},(∀v∈l,∀u∈cols,zbh m (v.1*m.w+u.1)=p)->l.foldl (fun q v=>ziP m v q cols) q=zfD q p (ziw cols*ziw l)
 | [],q,_=>by show q=zfD q p (ziw cols*0);rw [Int.mul_zero,zja]
 | v::l,q,h=>by
  show l.foldl _ (ziP m v q cols)=_;rw [zjD (fun v hv=>h v (.tail _ hv)),zjC (h v (.head _)),zi7,zjq,Int.mul_add]
theorem zjE{size n:Int}{x:Nat}(hn:1<=n)(hs:1<=size)(hx:(x:Int) < n):ziw (sps size n x size.toNat)=size:=by
 rw [zjk hn hs oM,Int.toNat_of_nonneg oM];have h1:((x:Int)+1)*size<=n*size:=Int.mul_le_mul_of_nonneg_right oM oM;rw [Int.mul_comm n size] at h1;have h2:((x:Int)+1)*size=(x:Int)*size+size:=by rw [Int.add_mul,Int.one_mul]
 omega
def zi8(m:Img)(p:Pix):Prop:=∀q∈m.px,q=p
theorem zjF{m:Img}{p:Pix}(h:zi8 m p){k:Int}(hk:0<=k/\k < m.px.length):zbh m k=p:=by
 have:m.px[k.toNat]? =some (m.px[k.toNat]'oM):=List.getElem?_eq_getElem oM;rw [ze3 this];exact h _ (List.getElem_mem _)
theorem zks{m:Img}(hm:qr m){a b:Int}(ha:0<=a/\a < m.w)(hb:0<=b/\b < m.h):0<=b*m.w+a/\b*m.w+a < m.px.length:=by
 obtain ⟨m1,m2,m3,m4,_⟩:=hm;have:=ziV ha hb m4;exact this.2.2
theorem zkt{m:Img}(hm:qr m){p:Pix}(hp:P8 p)(h:zi8 m p){w k:Int}(hw:1<=w)(hk:1<=k){x y:Nat}(hx:(x:Int) < w)(hy:(y:Int) < k):zjd m w k x y=p:=by
 have hm':=hm;obtain ⟨m1,m2,m3,m4,_⟩:=hm;unfold zjd ziM;rw [zjD (p:=p) fun v hv u hu=>zjF h (zks hm' (ziW hm' hu).1 (ziI hm' hv).1)];have e1:ziw (ziQ m w x)=m.w:=zjE hw m1.1 hx;have e2:ziw (ziO m k y)=m.h:=zjE hk m2.1 hy;rw [e1,e2];exact zi6 hp (Int.mul_pos oM oM)
theorem zjQ{m:Img}(hm:qr m){p:Pix}(hp:P8 p)(ho:jw p)(h:zi8 m p){w k:Int}(hs:ziH w k):(ziB m w k).2=0/\qr (ziB m w k).1/\zi8 (ziB m w k).1 p:=by
 unfold ziB;rw [if_neg (fun c=>c hm),if_neg (fun c=>c hs)];obtain ⟨⟨w1,w2⟩,⟨h1,h2⟩,h3⟩:=hs
 have all:∀q∈zi4 m w k,q=p:=fun q hq=>by
  unfold zi4 at hq;rw [Nat.mul_comm] at hq;obtain ⟨x,y,rfl,hx,hy⟩:=zkA hq oM;exact zkt hm hp h w1 h1 oM oM
 refine ⟨rfl,⟨⟨w1,w2⟩,⟨h1,h2⟩,h3,?_,fun q hq=>all q hq ▸ ho⟩,all⟩;show ((zi4 m w k).length:Int)=w*k;unfold zi4;rw [zjs,Int.natCast_mul,Int.toNat_of_nonneg oM,Int.toNat_of_nonneg oM,Int.mul_comm]
theorem zjm{w:Int}(hw:1<=w)(x:Nat):∀k:Nat,sps w w x k=if x < k then [((x:Int),w)] else []
 | 0=>by rw [if_neg oM];rfl
 | k+1=>by
  have e:∀a:Int,(a+1)*w=a*w+w:=fun a=>by rw [Int.add_mul,Int.one_mul]
  rw [zji,zjm hw x k]
  by_cases h1:k=x
  ·subst h1;have o:ov (k:Int) w (k:Int) w=w:=by unfold ov;rw [e];omega
   rw [o,if_neg oM,if_pos oM,if_pos oM];rfl
  ·have o:¬0 < ov (k:Int) w (x:Int) w:=by
    unfold ov;rw [e,e]
    rcases Nat.lt_or_ge k x with h2 | h2
    ·have:((k:Int)+1)*w<=(x:Int)*w:=Int.mul_le_mul_of_nonneg_right oM oM;rw [e] at this;omega
    ·have:((x:Int)+1)*w<=(k:Int)*w:=Int.mul_le_mul_of_nonneg_right oM oM;rw [e] at this;omega
   rw [if_neg o]
   by_cases h2:x < k
   ·rw [if_pos h2,if_pos oM,List.append_nil]
   ·rw [if_neg h2,if_neg oM];rfl
theorem zjG{m:Img}(hm:qr m)(hp:P8s m):ziB m m.w m.h=(m,0):=by
 have hm':=hm;obtain ⟨m1,m2,m3,m4,_⟩:=hm;unfold ziB;rw [if_neg (fun c=>c hm'),if_neg (fun c=>c ⟨m1,m2,m3⟩)]
 suffices h:zi4 m m.w m.h=m.px by rw [h]
 have hl:m.h.toNat*m.w.toNat=m.px.length:=by
  have:((m.h.toNat*m.w.toNat:Nat):Int)=m.px.length:=by rw [Int.natCast_mul,Int.toNat_of_nonneg oM,Int.toNat_of_nonneg oM,m4,Int.mul_comm]
  omega
 refine List.ext_getElem? fun i=>?_
 unfold zi4 gr;rw [List.getElem?_map,hl]
 by_cases hi:i < m.px.length
 ·rw [List.getElem?_range hi];have hpx:=List.getElem?_eq_getElem hi;have hx:i % m.w.toNat < m.w.toNat:=Nat.mod_lt _ oM;have hy:i / m.w.toNat < m.h.toNat:=Nat.div_lt_of_lt_mul (by rw [Nat.mul_comm];omega);have c1:ziQ m m.w (i % m.w.toNat)=[(((i % m.w.toNat:Nat):Int),m.w)]:=by unfold ziQ;rw [zjm m1.1,if_pos hx]
  have c2:ziO m m.h (i / m.w.toNat)=[(((i / m.w.toNat:Nat):Int),m.h)]:=by unfold ziO;rw [zjm m2.1,if_pos hy]
  have ek:((i / m.w.toNat:Nat):Int)*m.w+((i % m.w.toNat:Nat):Int)=(i:Int):=by
   have:=Nat.div_add_mod i m.w.toNat;have h2:((m.w.toNat*(i / m.w.toNat)+i % m.w.toNat:Nat):Int)=(i:Int):=by rw [this]
   rw [Int.natCast_add,Int.natCast_mul,Int.toNat_of_nonneg oM,Int.mul_comm] at h2;exact h2
  have ep:zbh m (i:Int)=m.px[i]:=ze3 hpx;show some (zjd m m.w m.h (i % m.w.toNat) (i / m.w.toNat))=_;rw [hpx];unfold zjd;rw [c1,c2];congr 1;show zbg (zfD zQ (zbh m (((i / m.w.toNat:Nat):Int)*m.w+((i % m.w.toNat:Nat):Int))) (m.w*m.h)) (m.w*m.h)=_;rw [ek,ep];exact zi6 (hp _ (List.getElem_mem _)) (Int.mul_pos oM oM)
 ·rw [List.getElem?_eq_none (by rw [List.length_range];omega),List.getElem?_eq_none oM];rfl
theorem zku{m:Img}(hm:qr m){p:Pix}(hp:P8 p)(h:zi8 m p):zi8 (ziC m) p:=fun q hq=>by
 obtain ⟨x,y,rfl,_⟩:=zkf hq;have ht:∀k,tk m x y k=p:=fun k=>h _ (zkg hm _ _)
 unfold ziY
 have e:zjc m x y 4=zfD zQ p 4:=by
  simp only [zjc,ht,zi7];rfl
 rw [e];exact zi6 hp dC
def ziE(v:Int):Pix:=⟨v,v,v,255⟩
def qL(v:Int):Img:=⟨4,4,List.replicate 16 (ziE v)⟩
theorem zjn{v:Int}(hv:R8 v):P8 (ziE v):=⟨hv,hv,hv,(by decide:R8 255)⟩
theorem zjY{v:Int}(hv:R8 v):jw (ziE v):=⟨hv.2,hv.2,hv.2⟩
theorem ziX(v:Int):zi8 (qL v) (ziE v):=fun _ h=>List.eq_of_mem_replicate h
theorem zkv{v:Int}(hv:R8 v):P8s (qL v):=fun q hq=>ziX v q hq ▸ zjn hv
theorem zjg{v:Int}(hv:R8 v):qr (qL v):=⟨(by decide:(1:Int)<=4/\(4:Int)<=4096),(by decide:(1:Int)<=4/\(4:Int)<=4096),(by decide:(4:Int)*4<=65536),rfl,fun q hq=>ziX v q hq ▸ zjY hv⟩
theorem zjH(v:Int):zix (qL v)=3:=by
 unfold zix
 rw [zje,if_pos (show ziK (qL v) from .inl (by decide:(1:Int) < 4)),zje,if_pos (show ziK (ziC (qL v)) from .inl (by decide:(1:Int) < qd 4)),zje,
  if_neg (show ¬ziK (ziC (ziC (qL v))) from fun h=>h.elim (fun h=>absurd h (by decide:¬(1:Int) < qd (qd 4))) fun h=>absurd h (by decide:¬(1:Int) < qd (qd 4)))]
theorem zjt{v:Int}(hv:R8 v):∀n,qr (itI (qL v) n)/\zi8 (itI (qL v) n) (ziE v)
 | 0=>⟨zjg hv,ziX v⟩
 | n+1=>⟨(ziN ⟨zjg hv,zkv hv⟩ (n+1)).1,zku (zjt hv n).1 (zjn hv) (zjt hv n).2⟩
theorem zkJ{v:Int}{c:Nat}{x:Int}(hx:0<=x/\x < 16):zC (qL v) c x=(pL (ziE v)).getD c 0:=by
 have e:(qL v).px[x.toNat]? =some (ziE v):=by
  show (List.replicate 16 (ziE v))[x.toNat]? =_;rw [List.getElem?_replicate,if_pos oM]
 exact u0 e
theorem zjZ{key:Int->Int}{k0:Int}:∀(b:List Int) (a:Int),(∀x∈b,key x=k0)->b≠[]->b.foldl (fun a i=>min a (key i)) a=min a k0
 | [x],a,h,_=>by show min a (key x)=_;rw [h x (.head _)]
 | x::y::b,a,h,_=>by
  show (y::b).foldl _ (min a (key x))=_;rw [zjZ (y::b) _ (fun z hz=>h z (.tail _ hz)) (by simp),h x (.head _)];omega
theorem zjI{key:Int->Int}{k0:Int}:∀(b:List Int) (a:Int),(∀x∈b,key x=k0)->b≠[]->b.foldl (fun a i=>max a (key i)) a=max a k0
 | [x],a,h,_=>by show max a (key x)=_;rw [h x (.head _)]
 | x::y::b,a,h,_=>by
  show (y::b).foldl _ (max a (key x))=_;rw [zjI (y::b) _ (fun z hz=>h z (.tail _ hz)) (by simp),h x (.head _)];omega
theorem zj0(m:Img):∀x∈yj m,0<=x/\x < (m.px.length:Int):=fun x hx=>by
 obtain ⟨i,hi,rfl⟩:=List.mem_map.1 hx;have:=List.mem_range.1 hi;omega
theorem zkK{v:Int}(hv:R8 v)(c:Nat):yi (qL v) (yj (qL v)) c=0:=by
 have hne:yj (qL v)≠[]:=fun e=>by have:=jM (qL v);rw [e] at this;exact absurd (show (0:Nat)=(List.replicate 16 (ziE v)).length from this) (by rw [List.length_replicate];decide)
 have hk:∀x∈yj (qL v),zC (qL v) c x=(pL (ziE v)).getD c 0:=fun x hx=>zkJ (zj0 _ x hx)
 have:=pL_8 (zjn hv) c;unfold R8 at this;unfold yi je kU;rw [zjZ _ _ hk hne,zjI _ _ hk hne];omega
theorem zjJ{m:Img}{b:List Int}(h:(jf m b).1=0):(zy m [b]).2.1=0:=by
 show (if (0:Int) < (jf m b).1 then (((0:Nat):Int),jf m b) else (0,0,0)).2.1=0;rw [if_neg oM]
theorem zkw{m:Img}{b:List Int}(h:∀c,yi m b c=0):(jf m b).1=0:=by
 show (kP m b (0,0) 4).1=0;simp only [kP,h];rfl
theorem zkx{v:Int}(hv:R8 v):(zy (qL v) [yj (qL v)]).2.1=0:=zjJ (zkw (zkK hv))
theorem zkL{v:Int}(hv:R8 v){n:Nat}(hn:1<=n):yK (qL v) n=[yj (qL v)]:=by
 obtain ⟨f,rfl⟩:∃f,n=f+1:=⟨n - 1,oM⟩;unfold yK vt;rw [zkx hv,if_pos rfl]
 split <;> rfl
theorem zjK{m:Img}{p:Pix}:∀(b:List Int) (q:Qd),(∀x∈b,zbh m x=p)->b.foldl (fun q x=>zfD q (zbh m x) 1) q=zfD q p (b.length:Int)
 | [],q,_=>by rw [List.length_nil,Int.natCast_zero,zja];rfl
 | x::b,q,h=>by
  show b.foldl _ (zfD q (zbh m x) 1)=_;rw [zjK b _ (fun y hy=>h y (.tail _ hy)),h x (.head _),zi7,List.length_cons];congr 1;omega
theorem zky{v:Int}(hv:R8 v){n:Int}(hn:1<=n/\n<=256):∃l:List Int,l.length=16/\kC (qL v) n=(([ziE v],l),0):=by
 refine ⟨jg (qL v).px.length [yj (qL v)] 1,?_,?_⟩;rotate_left
 ·unfold kC;rw [if_neg (fun c=>c (zjg hv)),if_neg (fun c=>c hn),zkL hv oM];generalize hb:yj (qL v)=b
  have e:y5 (qL v) [b]=[ziE v]:=by
   show [zbg (yk (qL v) b) (b.length:Int)]=_;unfold yk;rw [zjK (p:=ziE v) _ _ fun x hx=>zjF (ziX v) (zj0 _ x (hb ▸ hx)),← hb,jM];exact congrArg (fun q=>[q]) (zi6 (zjn hv) (by show (0:Int) < ((List.replicate 16 (ziE v)).length:Int);rw [List.length_replicate];decide))
  rw [e];rfl
 ·rw [u7];rfl
def ziS(l:List Pix)(i:Nat):Nat:=((l.take i).filter fun p=>decide (p.r=255)).length
theorem zjL{l:List Pix}{i:Nat}{p:Pix}(h:l[i]? =some p):ziS l (i+1)=ziS l i+(if p.r=255 then 1 else 0):=by
 unfold ziS;rw [List.take_add_one,h,Option.toList_some,List.filter_append,List.length_append];congr 1
 by_cases c:p.r=255
 ·simp [c]
 ·simp [c]
theorem zj9(l:List Pix)(i:Nat):ziS l i<=i:=by
 unfold ziS;have:((l.take i).filter fun p=>decide (p.r=255)).length<=(l.take i).length:=List.length_filter_le _ _;rw [List.length_take] at this;omega
theorem zka:∀v:Fin 256,ziS (ziT (qL (v.val:Int)) 2) 16=(32*v.val+255) / 510:=by decide +kernel
theorem zkb{v:Int}(hv:R8 v):(ziS (ziT (qL v) 2) 16:Int)=(32*v+255) / 510:=by
 obtain ⟨n,rfl⟩:∃n:Nat,v=(n:Int):=⟨v.toNat,by unfold R8 at hv;omega⟩;have:=zka ⟨n,by unfold R8 at hv;omega⟩;rw [show ((32:Int)*(n:Int)+255) / 510=(((32*n+255) / 510:Nat):Int) by omega];exact congrArg _ this
theorem zkc {σ:St} (k k0:Nat) {T T0:TypeId} {α:Type} {enc:α->List SV} {sz:Nat} {ys:List α} {cs cs':List SV} (hk:zl σ.M k=some (.arr T enc sz ys))
  (h0:zl σ.M k0=some (.box T0 cs)) (hl:cs'.length=cs.length) (hx:∀(j:Nat) s',cs'[j]? =some s'->∃s,cs[j]? =some s/\(s'=s∨(s=.own k/\s'=.sl enc ys))):
  Sub σ ⟨σ.L,zJ (zL σ.M k) k0 (.box T0 cs'),σ.nk,σ.nt,σ.n0⟩:=by
 intro E ρ a w hr;refine ⟨ρ,?_⟩;have hmem:=zg hk;have hsub:∀x∈zL σ.M k,x∈σ.M:=fun x hx=>zp x hx
 have hpd:=zN (k:=k) hr.mem.keys;have hkeys:(zJ (zL σ.M k) k0 (.box T0 cs')).map (·.1)=(zL σ.M k).map (·.1):=qx;have hown:∀b,Own (zJ (zL σ.M k) k0 (.box T0 cs')) ρ b->Own (zL σ.M k) ρ b:=fun b hb=>k8 hkeys.symm hb
 have hown2:∀b,Own (zL σ.M k) ρ b->Own σ.M ρ b:=fun b ⟨k',m,v,h1,h2,h3⟩=>⟨k',m,v,hsub _ h1,h2,h3⟩
 have hg:∀s v,G (fun b=>E.Keep b∨Own σ.M ρ b) (Own σ.M ρ) ρ w s v->
   G (fun b=>E.Keep b∨Own (zJ (zL σ.M k) k0 (.box T0 cs')) ρ b) (Own (zJ (zL σ.M k) k0 (.box T0 cs')) ρ) ρ w s v:=fun s v h=>
  h.mono (Nat.le_refl _) (fun b _ hb=>⟨fun h=>hb (h.imp id fun h=>hown2 b (hown b h)),rfl⟩) (fun b _ hb=>⟨fun h=>hb (hown2 b (hown b h)),rfl⟩) (fun _ _ h=>h)
 have hs:Stp (Own σ.M ρ) (Own (zJ (zL σ.M k) k0 (.box T0 cs')) ρ) ρ ρ w w:=
  ⟨rfl,rfl,.refl _,Nat.le_refl _,fun _ _ _=>rfl,fun b hb=>.inl (hown2 b (hown b hb)),fun _ _ h=>h⟩
 have hd:∀v,ρ k=some v->D (fun b=>E.Keep b∨Own (zJ (zL σ.M k) k0 (.box T0 cs')) ρ b) w (.sl enc ys) v:=fun v hv=>
  zal hr.mem hmem (fun b hb=>hb.imp id fun h=>hown2 b (hown b h)) (fun v' b hv' hb hSb=>by
   rcases hSb with hSb | hSb
   ·exact (hr.mem.old b ⟨k,_,v',hmem,hv',hb⟩).2 hSb
   ·obtain ⟨k',m',v1,h4,h5,h6⟩:=hown b hSb
    exact hr.mem.apart k _ k' m' v' v1 b hmem (hsub _ h4) (Ne.symm (kF hr.mem.keys _ h4)) hv' h5 hb h6) hv
 refine ⟨hr.size,hr.defers,fun t s hl=>⟨(hr.regs t s hl).1,hg s _ (hr.regs t s hl).2⟩,⟨fun k1 m1 h1=>?_,kv hkeys hpd,fun k1 m1 k2 m2 v1 v2 b h1 h2=>?_,fun b hb=>hr.mem.old b (hown2 b (hown b hb)),hr.mem.kp,hr.mem.glO fun b hb=>hown2 b (hown b hb)⟩,
  hr.fresh,hr.stp.trans hs,hr.keep,hr.low⟩
 ·rcases z4 hpd _ h1 with ⟨_,h2⟩ | h2
  ·exact (hr.mem.rel k1 m1 (hsub _ h2)).keep hs rfl (fun _ _ _ _=>rfl)
  ·cases h2
   obtain ⟨b,vs,g1,g2,g3,g4,g5⟩:=hr.mem.rel k0 _ (zg h0);refine ⟨b,vs,g1,g2,by rw [hl];exact g3,g4,fun j s' v hs' hv=>?_⟩;obtain ⟨s,e1,e2⟩:=hx j s' hs';have hgu:=g5 j s v e1 hv
   rcases e2 with rfl | ⟨rfl,rfl⟩
   ·exact hg _ _ hgu
   ·exact .d _ _ (hd v hgu.own_inv.1)
 ·have back:∀k1 m1,(k1,m1)∈zJ (zL σ.M k) k0 (.box T0 cs')->∃m',(k1,m')∈σ.M:=fun k1 m1 h=>by
   rcases z4 hpd _ h with ⟨_,h2⟩ | h2
   ·exact ⟨m1,hsub _ h2⟩
   ·cases h2;exact ⟨_,zg h0⟩
  obtain ⟨m1',h1'⟩:=back _ _ h1;obtain ⟨m2',h2'⟩:=back _ _ h2;exact hr.mem.apart k1 m1' k2 m2' v1 v2 b h1' h2'
def resT(c:Img×Int):SV:=.tup [.agg (kj c.1),i64 c.2]
theorem zkM{n:Nat}{l:List (List SV)}(h:(l.all fun x=>ym.outs n x)=true):∀x∈l,ym.outs n x=true:=fun x hx=>List.all_eq_true.1 h x hx
end Go.Gs
