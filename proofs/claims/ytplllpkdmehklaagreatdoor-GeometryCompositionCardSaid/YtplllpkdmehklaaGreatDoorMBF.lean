/- The points of a curve, both texts. -/
import Derived.Test.YtplllpkdmehklaaGreatDoorMA
import Derived.Test.YtplllpkdmehklaaGreatDoorMBE
import Derived.Test.YtplllpkdmehklaaGreatDoorMAP
import Derived.RangeFuncRecord
import Derived.OrdersIn
import Derived.TacticsIn
set_option maxRecDepth 100000
set_option maxHeartbeats 8000000
set_option linter.all false
namespace Go.Gs
open Go.Proofs
theorem zwM(a b:Int)(ha: -8796093022208<=a/\a<=8796093022208)(hb:0 < b/\b<=1048576):zd Tryz.prog 309 [i64 a,i64 b] [] (i64 (zcw a b)) []:=by
 have td:=tdm (m:=2*a+b) (n:=2*b) oM;have tr:=zp5 (m:=2*a+b) (n:=2*b) oM ⟨oM,oM⟩;refine zc tok mix Tryz.func309 rfl rfl rfl ?_;(iterate 3 refine Ar.o ?_);have e:zcw a b=(2*a+b) / (2*b):=rfl;have tr2:=tr.2 oM;have tr1:=tr.1;clear tr;refine Dv.any (by omega:2*b≠0) ?_;refine Ar.fit tr1 ?_;refine Dv.any (by omega:2*b≠0) ?_;refine Br.mk (fun k=>?_) (fun k=>?_)
 ·have k:(2*a+b).tmod (2*b) < 0:=k;refine Ar.fit (by unfold R64 at tr1;omega) ?_;exact zj (by rw [e];omega)
 ·have k:¬(2*a+b).tmod (2*b) < 0:=k;exact zj (by rw [e];omega)
theorem zwN(l:List Pt)(i n:Int)(hl:l.length<=4):zd Tryz.prog 307 [.sl ptE l,i64 i,i64 n] [] (pr (zty l i n)) []:=by
 refine zc tok mix Tryz.func307 rfl rfl rfl ?_;intro hl1;refine ⟨Nat,fun k=>⟨[(1,i64 i),(2,i64 n),(9,.sl ptE l),(10,i64 (l.length:Int)),(11,i64 (k:Int))],[],0,34,0⟩,fun k=>k<=l.length/\∀p∈l.take k,zn p,fun k=>l.length - k,0,?_,?_,?_⟩
 ·exact ⟨Nat.zero_le _,fun p hp=>by cases hp⟩
 ·exact zf []
 rintro k ⟨h1,h2⟩
 refine Br.mk (fun g=>?_) (fun g=>?_)
 ·have g:(k:Int) < l.length:=g;refine Ob.o ?_;intro x hx;have hx:l[k]? =some x:=hx;refine zb.t (kS x) ?_;refine Br.mk (fun b=>ze fun q=>b (q.1 x (List.mem_of_getElem? hx))) (fun b=>?_);have b:=Decidable.not_not.1 b;refine Ar.o ?_;refine ⟨k+1,⟨oM,fun p hp=>?_⟩,zf [],by dsimp only;omega⟩;rw [List.take_add_one,hx] at hp
  rcases List.mem_append.1 hp with hp | hp
  ·exact h2 p hp
  ·simp at hp;rw [hp];exact b
 have g:¬(k:Int) < l.length:=g;have hv:∀p∈l,zn p:=by rw [List.take_of_length_le oM] at h2;exact h2
 refine Br.mk (fun h1=>?_) (fun h1=>ze (fun k=>h1 k.2.1));refine Br.mk (fun h2=>?_) (fun h2=>ze (fun k=>h2 k.2.2.1));refine Br.mk (fun h3=>?_) (fun h3=>ze (fun k=>h3 k.2.2.2.1));exact zF ⟨fun h4=>⟨hv,h1,h2,h3,h4⟩,fun h=>h.2.2.2.2⟩
theorem zzj{k i n x y z:Int}(hk:0<=k/\k<=64)(hi:0<=i/\i<=64)(hn:1<=n/\n<=64)(hx: -1048576<=x/\x<=1048576)(hy: -1048576<=y/\y<=1048576)(hz: -1048576<=z/\z<=1048576):
  (-4096<=k*k/\k*k<=4096)/\(-4294967296<=k*k*x/\k*k*x<=4294967296)/\(-8192<=2*i*k/\2*i*k<=8192)/\(-8589934592<=2*i*k*y/\2*i*k*y<=8589934592)/\
  (-4096<=i*i/\i*i<=4096)/\(-4294967296<=i*i*z/\i*i*z<=4294967296)/\(0 < n*n/\n*n<=4096):=by
 have h1:=jy (A:=64) (B:=64) (a:=k) (b:=k) oM oM;have h2:=jy (A:=4096) (B:=1048576) (a:=k*k) (b:=x) oM oM;have h3:=jy (A:=128) (B:=64) (a:=2*i) (b:=k) oM oM;have h4:=jy (A:=8192) (B:=1048576) (a:=2*i*k) (b:=y) oM oM;have h5:=jy (A:=64) (B:=64) (a:=i) (b:=i) oM oM;have h6:=jy (A:=4096) (B:=1048576) (a:=i*i) (b:=z) oM oM;have h7:=jy (A:=64) (B:=64) (a:=n) (b:=n) oM oM;have h8:=Int.mul_pos (show 0 < n by omega) (show 0 < n by omega);omega
theorem zzk{k i n x y z u:Int}(hk:0<=k/\k<=64)(hi:0<=i/\i<=64)(hn:1<=n/\n<=64)(hx: -1048576<=x/\x<=1048576)(hy: -1048576<=y/\y<=1048576)(hz: -1048576<=z/\z<=1048576)(hu: -1048576<=u/\u<=1048576):
  ((-4096<=k*k/\k*k<=4096)/\(-262144<=k*k*k/\k*k*k<=262144)/\(-274877906944<=k*k*k*x/\k*k*k*x<=274877906944))/\
  ((-12288<=3*i*k/\3*i*k<=12288)/\(-786432<=3*i*k*k/\3*i*k*k<=786432)/\(-824633720832<=3*i*k*k*y/\3*i*k*k*y<=824633720832))/\
  ((-12288<=3*i*i/\3*i*i<=12288)/\(-786432<=3*i*i*k/\3*i*i*k<=786432)/\(-824633720832<=3*i*i*k*z/\3*i*i*k*z<=824633720832))/\
  ((-4096<=i*i/\i*i<=4096)/\(-262144<=i*i*i/\i*i*i<=262144)/\(-274877906944<=i*i*i*u/\i*i*i*u<=274877906944))/\((0 < n*n/\n*n<=4096)/\(0 < n*n*n/\n*n*n<=262144)):=by
 have h1:=jy (A:=64) (B:=64) (a:=k) (b:=k) oM oM;have h2:=jy (A:=4096) (B:=64) (a:=k*k) (b:=k) oM oM;have h3:=jy (A:=262144) (B:=1048576) (a:=k*k*k) (b:=x) oM oM;have h4:=jy (A:=192) (B:=64) (a:=3*i) (b:=k) oM oM;have h5:=jy (A:=12288) (B:=64) (a:=3*i*k) (b:=k) oM oM;have h6:=jy (A:=786432) (B:=1048576) (a:=3*i*k*k) (b:=y) oM oM;have h7:=jy (A:=192) (B:=64) (a:=3*i) (b:=i) oM oM;have h8:=jy (A:=12288) (B:=64) (a:=3*i*i) (b:=k) oM oM
 have h9:=jy (A:=786432) (B:=1048576) (a:=3*i*i*k) (b:=z) oM oM;have i1:=jy (A:=64) (B:=64) (a:=i) (b:=i) oM oM;have i2:=jy (A:=4096) (B:=64) (a:=i*i) (b:=i) oM oM;have i3:=jy (A:=262144) (B:=1048576) (a:=i*i*i) (b:=u) oM oM;have n1:=jy (A:=64) (B:=64) (a:=n) (b:=n) oM oM;have n2:=jy (A:=4096) (B:=64) (a:=n*n) (b:=n) oM oM;have n3:=Int.mul_pos (show 0 < n by omega) (show 0 < n by omega);have n4:=Int.mul_pos n3 (show 0 < n by omega);omega
theorem zk5(x y z k i n:Int)(hk:0<=k/\k<=64)(hi:0<=i/\i<=64)(hn:1<=n/\n<=64)(hx: -1048576<=x/\x<=1048576)(hy: -1048576<=y/\y<=1048576)(hz: -1048576<=z/\z<=1048576):
  zd Tryz.prog 308 [i64 x,i64 y,i64 z,.ptr [i64 k],.ptr [i64 i],.ptr [i64 n]] [] (i64 (zcw (k*k*x+2*i*k*y+i*i*z) (n*n))) []:=by
 have t:=zzj hk hi hn hx hy hz;refine zc tok mix Tryz.func308 rfl rfl rfl ?_;(iterate 10 refine Ar.o ?_);refine zb.t (zwM (k*k*x+2*i*k*y+i*i*z) (n*n) oM oM) ?_;exact .refl
theorem ztU{a b c:Pt}{i n:Int}(h:zty [a,b,c] i n):uf a b c i n=⟨q1 i n a.x b.x c.x,q1 i n a.y b.y c.y⟩:=by
 unfold uf;rw [qo h]
theorem zwO(a b c:Pt)(i n:Int):zd Tryz.prog 277 [.agg (ptE a++ptE b++ptE c),i64 i,i64 n] [] (.agg (ptE (uf a b c i n))) []:=by
 refine zc tok mix Tryz.func277 rfl rfl rfl ?_;refine zkb.data ?_;refine Dr.k ?_;refine ⟨Pt,ptE,[a,b,c],rfl,Ob.o10 ?_⟩;refine zb.t (zwN [a,b,c] i n (by show 3<=4;decide)) ?_;refine Br.mk (fun h=>?_) (fun h=>?_)
 ·refine zaD (show SV.agg (ptE zp)=_ from ?_);unfold uf;rw [if_pos h]
 have h:=Decidable.not_not.1 h;obtain ⟨hv,n1,n2,i1,i2⟩:=h;have ha:=hv a (by simp);have hb:=hv b (by simp);have hc:=hv c (by simp);refine Ar.o ?_;refine Dr.k ?_;refine zb.t (zk5 a.x b.x c.x (n - i) i n oM oM oM ha.1 hb.1 hc.1) ?_;refine zb.t (zk5 a.y b.y c.y (n - i) i n oM oM oM ha.2 hb.2 hc.2) ?_;exact zaD (congrArg (fun p=>SV.agg (ptE p)) (ztU ⟨hv,n1,n2,i1,i2⟩).symm)
theorem zk6(x y z u k i n:Int)(hk:0<=k/\k<=64)(hi:0<=i/\i<=64)(hn:1<=n/\n<=64)(hx: -1048576<=x/\x<=1048576)(hy: -1048576<=y/\y<=1048576)(hz: -1048576<=z/\z<=1048576)(hu: -1048576<=u/\u<=1048576):
  zd Tryz.prog 310 [i64 x,i64 y,i64 z,i64 u,.ptr [i64 k],.ptr [i64 i],.ptr [i64 n]] [] (i64 (zcw (k*k*k*x+3*i*k*k*y+3*i*i*k*z+i*i*i*u) (n*n*n))) []:=by
 have t:=zzk hk hi hn hx hy hz hu;refine zc tok mix Tryz.func310 rfl rfl rfl ?_;(iterate 19 refine Ar.o ?_);refine zb.t (zwM (k*k*k*x+3*i*k*k*y+3*i*i*k*z+i*i*i*u) (n*n*n) oM oM) ?_;exact .refl
theorem ztV{a b c d:Pt}{i n:Int}(h:zty [a,b,c,d] i n):ug a b c d i n=⟨c1 i n a.x b.x c.x d.x,c1 i n a.y b.y c.y d.y⟩:=by
 unfold ug;rw [qo h]
theorem zwP(a b c d:Pt)(i n:Int):zd Tryz.prog 280 [.agg (ptE a++ptE b++ptE c++ptE d),i64 i,i64 n] [] (.agg (ptE (ug a b c d i n))) []:=by
 refine zc tok mix Tryz.func280 rfl rfl rfl ?_;refine zkb.data ?_;refine Dr.k ?_;refine ⟨Pt,ptE,[a,b,c,d],rfl,Ob.o10 ?_⟩;refine zb.t (zwN [a,b,c,d] i n (by show 4<=4;decide)) ?_;refine Br.mk (fun h=>?_) (fun h=>?_)
 ·refine zaD (show SV.agg (ptE zp)=_ from ?_);unfold ug;rw [if_pos h]
 have h:=Decidable.not_not.1 h;obtain ⟨hv,n1,n2,i1,i2⟩:=h;have ha:=hv a (by simp);have hb:=hv b (by simp);have hc:=hv c (by simp);have hd:=hv d (by simp);refine Ar.o ?_;refine Dr.k ?_;refine zb.t (zk6 a.x b.x c.x d.x (n - i) i n oM oM oM ha.1 hb.1 hc.1 hd.1) ?_;refine zb.t (zk6 a.y b.y c.y d.y (n - i) i n oM oM oM ha.2 hb.2 hc.2 hd.2) ?_;exact zaD (congrArg (fun p=>SV.agg (ptE p)) (ztV ⟨hv,n1,n2,i1,i2⟩).symm)
def zfL(prev:SV->SV)(lm:Nat->Option Mem):SV->SV
 |.loc k off=>(match lm k with
  | some (.box _ cs)=>.dptr ((cs.map prev).drop off)
  | _=>.junk)
 |.own k=>(match lm k with
  | some (.arr _ enc _ xs)=>.sl enc xs
  | _=>.junk)
 | .fn f cs=>.dfn f (frzs prev lm cs)
 | .agg cs=>.agg (frzs prev lm cs)
 | .ifc t s=>.ifc t (zfL prev lm s)
 | .val v=>.val v
 | .pr p i=>.pr p i
 | .sl enc xs=>.sl enc xs
 | .dptr cs=>.dptr cs
 | .dfn f cs=>.dfn f cs
 | .bm f cs=>.bm f cs
 | .op v=>.op v
 | .nils=>.nils
 | .anyb=>.anyb
 | .full enc xs=>.full enc xs
 | _=>.junk
 where
 frzs (prev:SV->SV) (lm:Nat->Option Mem):List SV->List SV
  | []=>[]
  | c::cs=>zfL prev lm c::frzs prev lm cs
def frz(lm:Nat->Option Mem):Nat->SV->SV
 | 0=>zfL (fun _=>.junk) lm
 | n+1=>zfL (frz lm n) lm
def zhy(lm:Nat->Option Mem)(n:Nat)(s:SV):SV:=
 match s with
 | .tup cs=>.tup (cs.map (frz lm n))
 | s=>frz lm n s
theorem zjg(prev:SV->SV)(lm:Nat->Option Mem):∀cs,zfL.frzs prev lm cs=cs.map (zfL prev lm)
 | []=>rfl
 | c::cs=>by rw [zfL.frzs,zjg prev lm cs];rfl
section
variable {Keep:Nat->Prop} {M:List (Nat×Mem)} {ρ:zi} {w:World} {lm:Nat->Option Mem}
theorem zwQ (hlm:∀k m,lm k=some m->(k,m)∈M) (hm:zJ Keep M ρ w) {prev:SV->SV}
  (hp:∀{s:SV} {v:Value},G (fun b=>Keep b∨Own M ρ b) (Own M ρ) ρ w s v->D Keep w (prev s) v):
  ∀(s:SV) {v:Value},G (fun b=>Keep b∨Own M ρ b) (Own M ρ) ρ w s v->D Keep w (zfL prev lm s) v:=by
 have hsub:∀b,Keep b->Keep b∨Own M ρ b:=fun b h=>.inl h
 intro s
 induction s using SV.rec (motive_2:=fun cs=>∀{vs:List Value},Gs (fun b=>Keep b∨Own M ρ b) (Own M ρ) ρ w cs vs->∀(j:Nat) (s:SV) (v:Value),(zfL.frzs prev lm cs)[j]? =some s->vs[j]? =some v->D Keep w s v) with
 | val v=>intro u hg;rw [hg.val_inv];exact .val v
 | pr p i=>intro u hg;rw [hg.pr_inv];exact .pr p i
 | sl enc xs=>intro u hg;exact hg.sl_inv.less hsub
 | nils=>intro u hg;obtain ⟨a,rfl⟩:=hg.nils_inv;exact .nils a
 | anyb=>intro u hg;obtain ⟨b,rfl⟩:=hg.anyb_inv;exact .anyb b
 | full enc xs=>intro u hg;obtain ⟨a,rfl,hd⟩:=hg.full_inv;exact .full enc xs a (hd.less hsub)
 | dptr cs _=>intro u hg;cases hg with | d _ _ h=>exact h.less hsub
 | dfn f cs _=>intro u hg;cases hg with | d _ _ h=>exact h.less hsub
 | bm f cs _=>intro u hg;cases hg with | d _ _ h=>exact h.less hsub
 | op v=>intro u hg;cases hg with | d _ _ h=>exact h.less hsub
 | ifc t s ih=>
  intro u hg;obtain ⟨v,rfl,hv⟩:=hg.ifc_inv;exact .ifc t _ v (ih hv)
 | agg cs ih=>
  intro u hg;obtain ⟨vs,rfl,hvs⟩:=hg.agg_inv;exact .agg _ vs (by rw [zjg,List.length_map];exact hvs.1) (ih hvs)
 | fn f cs ih=>
  intro u hg;obtain ⟨vs,rfl,hvs⟩:=hg.fn_inv;exact .dfn f _ vs (by rw [zjg,List.length_map];exact hvs.1) (ih hvs)
 | loc k off=>
  intro u hg;obtain ⟨b,hρ,rfl⟩:=hg.loc_inv;simp only [zfL]
  split
  ·rename_i T cs hk;have hmem:=hlm k _ hk;obtain ⟨b',vs,h1,h2,h3,h4,h5⟩:=hm.rel k _ hmem;rw [hρ] at h1;cases h1
   have hb:=hm.old b ⟨k,_,_,hmem,hρ,rfl⟩;refine .dptr _ b off (fun j=>(vs[off+j]?).getD undef) hb.1 hb.2 (fun j hj=>?_) (fun j s hs=>?_)
   ·have hj':off+j < vs.length:=by simp at hj;omega
    rw [ze8 h2];simp only [List.getElem?_eq_getElem hj',Option.getD_some];exact ⟨trivial,h4 _ (List.getElem_mem hj')⟩
   ·rw [List.getElem?_drop,List.getElem?_map] at hs
    cases hc:cs[off+j]? with
    | none=>simp [hc] at hs
    | some c=>
     simp [hc] at hs;subst hs;have hj':off+j < vs.length:=by have:=(List.getElem?_eq_some_iff.1 hc).1;omega
     rw [List.getElem?_eq_getElem hj',Option.getD_some];exact hp (h5 _ c _ hc (List.getElem?_eq_getElem hj'))
  ·exact .junk _
 | own k=>
  intro u hg;obtain ⟨hρ,h1⟩:=hg.own_inv;simp only [zfL]
  split
  ·rename_i T α enc sz xs hk;have hmem:=hlm k _ hk;exact zgZ hm hmem (fun b hb=>.inl hb) (fun v b hv hb hk=>(hm.old b ⟨k,_,v,hmem,hv,hb⟩).2 hk) hρ
  ·exact .junk _
 | ptr cs _=>intro u _;exact .junk _
 | eloc _ _ _ _=>intro u _;exact .junk _
 | win _ _ _ _=>intro u _;exact .junk _
 | tup cs _=>intro u _;exact .junk _
 | junk=>intro u _;exact .junk _
 | nil=>rename_i vs _ j s v h _;simp [zfL.frzs] at h
 | cons c cs ihc ihcs=>
  rename_i vs hg j s v h hv;obtain ⟨v0,vs',rfl,h1,h2⟩:=hg.cons_inv
  cases j with
  | zero=>simp [zfL.frzs] at h hv;subst h;subst hv;exact ihc h1
  | succ j=>exact ihcs h2 j s v (by simpa [zfL.frzs] using h) (by simpa using hv)
theorem zoJ(hlm:∀k m,lm k=some m->(k,m)∈M)(hm:zJ Keep M ρ w):∀(n:Nat) {s:SV} {v:Value},G (fun b=>Keep b∨Own M ρ b) (Own M ρ) ρ w s v->D Keep w (frz lm n s) v
 | 0,s,_,h=>zwQ hlm hm (fun _=>.junk _) s h
 | n+1,s,_,h=>zwQ hlm hm (fun h=>zoJ hlm hm n h) s h
end
def endF(n:Nat)(Γ:List (TypeId×TI))(rs:List ResultVar)(r:SV)(e:Ex)(σ:St):Prop:=
 match e with
 | .exit _=>False
 | _=>zbo σ Γ rs fun s=>LE (zhy (zN σ.M) n s) r
theorem vv (n:Nat) {P:Program} {Γ:List (TypeId×TI)} (hT:TOK P Γ) (hm:P.follows .mixedOrders=true) {f:FuncId} {fn:Func} {c:Code} {args:List SV} {r:SV}
  (hf:P.funcs[f]? =some fn) (hb:fn.body=some c) (hn:(fn.name== "runtime.NumGoroutine")=false) (hle:Nat.ble args.length fn.ntmps=true)
  (h:jJ P Γ c ⟨jS 0 args,[],0,fn.ntmps,0⟩ (endF n Γ fn.results.toList r)):zd P f args [] r []:=by
 refine zai hT hm hf hb hn hle h (fun e σ h=>⟨σ,.refl,h⟩) (fun e σ hq he=>?_) (fun id σ hq=>hq)
 have hq:zbo σ Γ fn.results.toList fun s=>LE (zhy (zN σ.M) n s) r:=by
  cases e with
  | exit id=>exact absurd rfl (he id)
  | normal=>exact hq
  | ret=>exact hq
 obtain ⟨s,hle,h1⟩:=yb hT hq;refine ⟨s,h1,fun {E ρ a w v} hr hW _ hg=>⟨ρ,?_,?_,?_⟩⟩
 ·have hs:=hr.stp;exact ⟨hs.os,hs.tape,hs.output,hs.size,fun b hb hn=>hs.block b hb fun h=>hn ((hW b).1 h),fun b hb=>absurd hb zT,hs.rho⟩
 ·exact (qR hr.mem.kp fun _ _ h=>hr.mem.glc h)
 ·have hd:∀{s:SV} {v:Value},G (fun b=>E.Keep b∨Own σ.M ρ b) (Own σ.M ρ) ρ w s v->D (fun b=>E.Keep b∨Own [] ρ b) w (frz (zN σ.M) n s) v:=fun h=>
   (zoJ (fun k m h=>zr h) hr.mem n h).less fun b hb=>hb.resolve_right zT
  refine hle _ _ _ _ _ ?_;unfold zhy
  split
  ·rename_i cs;obtain ⟨vs,rfl,hvs⟩:=hg.tup_inv;refine .tup _ vs (by rw [List.length_map];exact hvs.1) fun j s v hs hv=>?_
   rw [List.getElem?_map] at hs
   cases hc:cs[j]? with
   | none=>simp [hc] at hs
   | some c=>
    simp [hc] at hs;subst hs;exact .d _ _ (hd (hvs.2 j c v hc hv))
  ·exact .d _ _ (hd hg)
theorem zhh (n:Nat) {P:Program} {Γ:List (TypeId×TI)} (hT:TOK P Γ) (hm:P.follows .mixedOrders=true) {f:FuncId} {fn:Func} {c:Code} {args:List SV} {M:List (Nat×Mem)} {r:SV}
  (hf:P.funcs[f]? =some fn) (hb:fn.body=some c) (hn:(fn.name== "runtime.NumGoroutine")=false) (hle:Nat.ble args.length fn.ntmps=true)
  (h:jJ P Γ c ⟨jS 0 args,M,M.length,fn.ntmps,M.length⟩ (endF n Γ fn.results.toList r)):zd P f args M r []:=by
 refine zai hT hm hf hb hn hle h (fun e σ h=>⟨σ,.refl,h⟩) (fun e σ hq he=>?_) (fun id σ hq=>hq)
 have hq:zbo σ Γ fn.results.toList fun s=>LE (zhy (zN σ.M) n s) r:=by
  cases e with
  | exit id=>exact absurd rfl (he id)
  | normal=>exact hq
  | ret=>exact hq
 obtain ⟨s,hle,h1⟩:=yb hT hq;refine ⟨s,h1,fun {E ρ a w v} hr hW _ hg=>⟨ρ,?_,?_,?_⟩⟩
 ·have hs:=hr.stp;exact ⟨hs.os,hs.tape,hs.output,hs.size,fun b hb hn=>hs.block b hb fun h=>hn ((hW b).1 h),fun b hb=>absurd hb zT,hs.rho⟩
 ·exact (qR hr.mem.kp fun _ _ h=>hr.mem.glc h)
 ·have hd:∀{s:SV} {v:Value},G (fun b=>E.Keep b∨Own σ.M ρ b) (Own σ.M ρ) ρ w s v->D (fun b=>E.Keep b∨Own [] ρ b) w (frz (zN σ.M) n s) v:=fun h=>
   (zoJ (fun k m h=>zr h) hr.mem n h).less fun b hb=>hb.resolve_right zT
  refine hle _ _ _ _ _ ?_;unfold zhy
  split
  ·rename_i cs;obtain ⟨vs,rfl,hvs⟩:=hg.tup_inv;refine .tup _ vs (by rw [List.length_map];exact hvs.1) fun j s v hs hv=>?_
   rw [List.getElem?_map] at hs
   cases hc:cs[j]? with
   | none=>simp [hc] at hs
   | some c=>
    simp [hc] at hs;subst hs;exact .d _ _ (hd (hvs.2 j c v hc hv))
  ·exact .d _ _ (hd hg)
structure yN (F:Fence):Prop where
 fn:∀f,F.fn f
 depth:F.depth=none
 alive:F.alive=false
theorem yN.wide:yN Fence.wide:=⟨fun _=>trivial,rfl,rfl⟩
theorem yN.inRound{F:Fence}(h:yN F)(l:Nat):yN (F.inRound l):=⟨h.fn,h.depth,h.alive⟩
theorem yN.room{F:Fence}(h:yN F)(n:Nat):F.room n:=fun d hd=>by rw [h.depth] at hd;cases hd
theorem yN.fenced{F:Fence}(h:yN F)(P:Program)(m:Machine):m.fenced P F:=by
 intro g _;exact ⟨fun ha=>(by rw [h.alive] at ha;cases ha),.inl (h.fn _),fun f _=>h.fn f,h.room _⟩
theorem yN.steps{F:Fence}(h:yN F){P:Program}{m m':Machine}(hs:Steps P m m'):StepsIn (Machine.fenced P F) P m m':=
 (StepsIn.of_steps hs).mono fun m _=>h.fenced P m
theorem yN.comes{F:Fence}(h:yN F){P:Program}{m m':Machine}{e:Ending}(hs:Comes P m m' e):ComesIn (Machine.fenced P F) P m m' e:=by
 cases e with
 | returned v=>exact h.steps hs
 | panicked c=>exact h.steps hs
 | outgrown=>exact hs
theorem yN.calls{F:Fence}(h:yN F){n:Nat}{P:Program}{f:FuncId}{args:Array Value}{w:World}{R:Ending->World->Prop}(hc:Calls P f args w R):CallsIn F n P f args w R:=
 ⟨h.fn f,fun cs _=>let ⟨e,w',fr,r,s,x⟩:=hc cs;⟨e,w',fr,r,h.comes s,x⟩⟩
theorem yN.rows{F:Fence}(h:yN F){n:Nat}{P:Program}{row:String}{args:Array Value}{w:World}{R:Value->World->Prop}(hc:Go.Rows P row args w R):RowsIn F n P row args w R:=
 fun c cs _=>let ⟨v,w',r,s⟩:=hc c cs;⟨v,w',r,h.steps s⟩
theorem yN.need{F:Fence}(h:yN F){n:Nat}:F.depth.isSome=true->1<=n:=fun hd=>by rw [h.depth] at hd;cases hd
theorem yN.op {F:Fence} (h:yN F) {n:Nat} {P:Program} {o:Oper} {a:Act} {w:World} {K:Act->World->Prop} {Q:Exit->Act->World->Prop} (hd:∀c,o.op≠.defer c)
  (hw:o.wp P a w K Q):o.wpIn F n P a w K Q:=by
 refine ⟨fun f _=>h.fn f,?_⟩;rw [Oper.semAt_eq _ _ _ hd];unfold Oper.wp at hw;generalize (execOp a.eval o).run P w=r at*
 cases r with
 | ok x w'=>
  cases x <;> simp only [Oper.upon,Oper.uponIn] at hw ⊢
  case value=>exact hw
  case skip=>exact hw
  case defer=>exact hw
  case enter=>exact ⟨h.need,(h.calls hw).mono fun e w'' he=>by cases e <;> exact he⟩
  case row=>exact ⟨h.need,h.rows hw⟩
 | halt x w'=>cases x <;> simp only [Oper.upon,Oper.uponIn] at hw ⊢;exact hw
def zoK(o:Oper):Bool:=match o.op with | .defer _=>false | _=>true
theorem zeQ{o:Oper}(h:zoK o=true):∀c,o.op≠.defer c:=fun c e=>by unfold zoK at h;rw [e] at h;cases h
def yO(l:List Oper):Bool:=l.all zoK
theorem zjh{l:List Oper}(h:yO l=true){o:Oper}(ho:o∈l):∀c,o.op≠.defer c:=zeQ (List.all_eq_true.1 h o ho)
theorem yN.list{F:Fence}(h:yN F){n:Nat}{P:Program}{ops:Array Oper}{Q:Exit->Act->World->Prop}(hQ:∀a w,¬Q .outgrown a w):∀{l:List Oper} {a:Act} {w:World},yO l=true->
  wpList P ops Q l a w->wpListIn F n P ops Q l a w
 | [],_,_,_,hw=>hw
 | o::r,a,w,hd,hw=>by
  have hd':zoK o=true/\yO r=true:=by unfold yO at hd ⊢;rw [List.all_cons,Bool.and_eq_true] at hd;exact hd
  unfold wpList at hw;unfold wpListIn
  split
  ·rename_i hwt;rw [if_pos hwt] at hw;have hw:=hw.resolve_right fun k=>by obtain ⟨_,a',w',k⟩:=k;exact hQ _ _ k
   exact h.op (zeQ hd'.1) (Oper.wp_mono (fun a w hk=>h.list hQ hd'.2 hk) hw)
  ·rename_i hwt;rw [if_neg hwt] at hw;exact ⟨fun f _=>h.fn f,h.list hQ hd'.2 hw⟩
theorem yN.any{F:Fence}(h:yN F){n:Nat}{P:Program}{md:Region.Mode}{ops:Array Oper}{Q:Exit->Act->World->Prop}(hQ:∀a w,¬Q .outgrown a w)(hd:yO ops.toList=true):
  ∀{fuel:Nat} {listed:Array Bool} {a:Act} {w:World},wpAny P md ops Q fuel listed a w->wpAnyIn F n P md ops Q fuel listed a w
 | 0,_,_,_,hw=>hw
 | fuel+1,listed,a,w,hw=>by
  refine ⟨hw.1,fun i hi=>?_⟩;have:=hw.2 i hi;unfold wpOp at this;unfold wpOpIn
  cases ho:ops[i]? with
  | none=>rw [ho] at this;exact h.any hQ hd this
  | some o=>
   rw [ho] at this;dsimp only at this ⊢;have hdo:=zjh hd (o:=o) (by rw [Array.mem_toList_iff];exact Array.mem_of_getElem? ho)
   split
   ·rename_i hwt;rw [if_pos hwt] at this;have:=this.resolve_right fun k=>by obtain ⟨_,a',w',k⟩:=k;exact hQ _ _ k
    exact h.op hdo (Oper.wp_mono (fun a w hk=>h.any hQ hd hk) this)
   ·rename_i hwt;rw [if_neg hwt] at this;exact ⟨fun f _=>h.fn f,h.any hQ hd this⟩
def uF:Code->Bool
 | .region _ ops _=>yO ops.toList
 | .seq x y=>uF x&&uF y
 | .cond _ x y=>uF x&&uF y
 | .block _ c=>uF c
 | .loop c=>uF c
 | .scope _=>false
 | _=>true
theorem uz.grown{E:Env}{Q:Ex->St->Prop}(a:Act)(w:World):¬uz E Q .outgrown a w:=fun h=>h
theorem ztW {F:Fence} (hF:yN F) {n:Nat} {P:Program} {Γ:List (TypeId×TI)} (hT:TOK P Γ) (hm:P.follows .mixedOrders=true) {E:Env} {id:Nat} {ops:Array Oper} {draw:Bool} {σ:St} {Q:Ex->St->Prop} {ρ:zi} {a:Act} {w:World}
  (hd:yO ops.toList=true) (hr:Rel E σ ρ a w) (h:jJ P Γ (.region id ops draw) σ Q):(Code.region id ops draw).wpIn F n P (uz E Q) a w:=by
 cases draw with
 | false=>
  have h:uL P Γ false ops.toList ops.toList 0 σ (Q .normal):=h;refine wpIn_region_list (hF.list uz.grown hd ?_);have:=zhJ (Q:=uz E Q) hT (fun σ ρ a w h hr=>⟨σ,ρ,h,hr⟩) hr h
  simpa using this
 | true=>
  have h:Dr (uU ops.toList=true) (uL P Γ true ops.toList ops.toList 0 σ (Q .normal)) (Ob (zeC ops.toList=true) (zav P Γ ops.toList ops.toList 0 [] σ (Q .normal))):=h;refine wpIn_region_any hm (hF.any uz.grown hd ?_)
  rcases h with ⟨h1,h2⟩ | ⟨h1,h2⟩
  ·exact zcX hT hr h1 h2 fun σ ρ a w h hr=>⟨σ,ρ,h,hr⟩
  ·exact zfl hT hr h1 h2 fun σ ρ a w h hr=>⟨σ,ρ,h,hr⟩
theorem v8 {F:Fence} {n:Nat} {P:Program} {Q:Exit->Act->World->Prop} {a:Act} {w:World} {c:Code} (I:Nat->Act->World->Prop) (n₀:Nat) (h₀:I n₀ a w)
  (round:∀m a w,I m a w->c.wpIn F n P (Exit.then (fun a' w'=>∃m',m' < m/\I m' a' w') Q) a w):(Code.loop c).wpIn F n P Q a w:=by
 refine wpIn_loop (fun a w=>∃m,I m a w) (fun a w=>leastOf (fun m=>I m a w)) ⟨n₀,h₀⟩ ?_;intro a w hI;refine wpIn_mono (round _ a w (leastOf_spec hI).1) ?_;intro e a' w' hq
 cases e with
 | normal=>
  obtain ⟨m',hlt,hI'⟩:=hq;exact show (∃m,I m a' w')/\leastOf (fun m=>I m a' w') < leastOf (fun m=>I m a w) from ⟨⟨m',hI'⟩,Nat.lt_of_le_of_lt ((leastOf_spec ⟨m',hI'⟩).2 m' hI') hlt⟩
 | exit id=>exact hq
 | goto l=>exact hq
 | ret=>exact hq
 | panic ch=>exact hq
 | outgrown=>exact hq
theorem uv{F:Fence}(hF:yN F){n:Nat}{P:Program}{Γ:List (TypeId×TI)}(hT:TOK P Γ)(hm:P.follows .mixedOrders=true){E:Env}:∀(c:Code) {σ:St} {Q:Ex->St->Prop} {ρ:zi} {a:Act} {w:World},
  uF c=true->Rel E σ ρ a w->jJ P Γ c σ Q->c.wpIn F n P (uz E Q) a w
 | .skip,σ,Q,ρ,a,w,_,hr,h=>wpIn_skip ⟨σ,ρ,h,hr⟩
 | .region id ops draw,σ,Q,ρ,a,w,hd,hr,h=>ztW hF hT hm hd hr h
 | .seq x y,σ,Q,ρ,a,w,hd,hr,h=>by
  have hd:uF x=true/\uF y=true:=by unfold uF at hd;rwa [Bool.and_eq_true] at hd
  refine wpIn_seq (wpIn_mono (uv hF hT hm x hd.1 hr h) (fun e a' w' hq=>?_))
  cases e with
  | normal=>obtain ⟨σ',ρ',h',hr'⟩:=hq;exact uv hF hT hm y hd.2 hr' h'
  | exit id=>exact hq
  | ret=>exact hq
  | _=>exact hq.elim
 | .cond c x y,σ,Q,ρ,a,w,hd,hr,h=>by
  have hd:uF x=true/\uF y=true:=by unfold uF at hd;rwa [Bool.and_eq_true] at hd
  obtain ⟨s,h,hs⟩:=zdL h;have hg:=hs (a:=a) (fun t s _ hl=>(hr.regs t s hl).2)
  split at h
  ·exact wpIn_cond_true hg.val_inv (uv hF hT hm x hd.1 hr h)
  ·exact wpIn_cond_false hg.val_inv (uv hF hT hm y hd.2 hr h)
  ·rename_i p i
   by_cases hp:p
   ·exact wpIn_cond_true (by rw [hg.pr_inv];simp [hp]) (uv hF hT hm x hd.1 hr (h.yes hp))
   ·exact wpIn_cond_false (by rw [hg.pr_inv];simp [hp]) (uv hF hT hm y hd.2 hr (h.no hp))
  ·obtain ⟨b,hb⟩:=hg.anyb_inv
   cases b with
   | true=>exact wpIn_cond_true hb (uv hF hT hm x hd.1 hr h.yes)
   | false=>exact wpIn_cond_false hb (uv hF hT hm y hd.2 hr h.no)
  ·exact h.elim
 | .block id c,σ,Q,ρ,a,w,hd,hr,h=>by
  refine wpIn_block (wpIn_mono (uv hF hT hm c hd hr h) (fun e a' w' hq=>?_))
  cases e with
  | normal=>exact hq
  | exit j=>
   obtain ⟨σ',ρ',h',hr'⟩:=hq;dsimp only at h';show (if j=id then uz E Q .normal a' w' else uz E Q (.exit j) a' w')
   split at h'
   ·rename_i hb;rw [if_pos (Nat.eq_of_beq_eq_true hb)];exact ⟨σ',ρ',h',hr'⟩
   ·rename_i hb;rw [if_neg (Nat.ne_of_beq_eq_false hb)];exact ⟨σ',ρ',h',hr'⟩
  | ret=>exact hq
  | _=>exact hq.elim
 | .loop c,σ,Q,ρ,a,w,hd,hr,h=>by
  obtain ⟨ι,S,I,μ,x0,h0,hsub,hround⟩:=h;obtain ⟨ρ0,hr0⟩:=hsub E ρ a w hr;refine v8 (fun n a w=>∃x ρ,I x/\μ x=n/\Rel E (S x) ρ a w) (μ x0) ⟨x0,ρ0,h0,rfl,hr0⟩ fun n a w hI=>?_
  obtain ⟨x,ρ1,h1,rfl,hr1⟩:=hI;refine wpIn_mono (uv hF hT hm c hd hr1 (hround x h1)) (fun e a' w' hq=>?_)
  cases e with
  | normal=>
   obtain ⟨σ',ρ',⟨x',h2,hs2,hlt⟩,hr'⟩:=hq;obtain ⟨ρ2,hr2⟩:=hs2 E ρ' a' w' hr';exact ⟨μ x',hlt,x',ρ2,h2,rfl,hr2⟩
  | exit id=>exact hq
  | ret=>exact hq
  | _=>exact hq.elim
 | .exit id,σ,Q,ρ,a,w,_,hr,h=>wpIn_exit ⟨σ,ρ,h,hr⟩
 | .ret,σ,Q,ρ,a,w,_,hr,h=>wpIn_ret ⟨σ,ρ,h,hr⟩
 | .rangeFunc _ _ _ _,_,_,_,_,_,_,_,h=>by cases h
 | .scope _,_,_,_,_,_,hd,_,_=>by cases hd
 | .label _,σ,Q,ρ,a,w,_,hr,h=>wpIn_label ⟨σ,ρ,h,hr⟩
 | .goto _,_,_,_,_,_,_,_,h=>by cases h
 | .refuse _,_,_,_,_,_,_,_,h=>by cases h
end Go.Gs
