/- errors.As at the error of a node ('wrong'), by the kit's walk: nil; the error's own type is the target's. -/
import Derived.WalkKit
import Derived.LaidEql
import Derived.Stop.Asserts
import Derived.RowKitTokens
import Derived.Deep.Slices
import Derived.Deep.Fields
import Derived.ChangeSame
import Derived.Lib.SmallJoins
import Derived.ProofKit
import Derived.OpenShut
import Derived.Carry
import Derived.Test.YtlckjbeknkkllaaGreatDoorMAP
set_option maxRecDepth 100000
set_option maxHeartbeats 8000000
set_option linter.all false
namespace Go.Gs
open Proofs.Tryz
open Go.Proofs Go.RowKit Go.Extern.Stop Go.Stop Go.Extern
def zuS(t:Value)(w:World):Calls prog 153 #[.nilIface,t] w λe w'=>e=.returned (.bool false)/\w'=w:=by
 go_enter func153,Tryz.ntmps153
 go_wp2
 go_ret
 exact⟨rfl,rfl⟩
def zoO(t:Addr)(w:World):(ReflectliteValue.unpack (.iface 176 (.pointer (some t)))).run prog w
  =.ok (.agg #[.pointer (some ⟨3,176,none⟩),.pointer (some ⟨w.heap.size,0,none⟩),.int .u64 150]) (w.alloc (.cells #[.pointer (some t)] 176)):=by kernel_rfl
def zw9(a:Addr)(w:World):(ReflectliteValue.methodAny (ReflectliteValue.valueError "reflectlite.Value.Type" 0) (λt _ _ _=>ReflectliteType.toType t) #[.agg #[.pointer (some ⟨3,176,none⟩),.pointer (some a),.int .u64 150]]).run prog w
  =.ok (.iface 301 (.agg #[.pointer (some ⟨3,176,none⟩)])) w:=by kernel_rfl
def zkW(h:Value)(w:World):(Go.method 555 301 (.agg #[h]) "Kind").run prog w=.ok (524,h) w:=by kernel_rfl
def zxa(w:World):((ReflectliteType.abiMethod λt=>(λa:Nat=>Value.int IntKind.u8 (a:Int)) <$> Rtype.kind t) #[.pointer (some ⟨3,176,none⟩)]).run prog w=.ok (.int .u8 22) w:=by kernel_rfl
def zxb(w:World):((ReflectliteType.abiMethod λt=>(λa:Nat=>Value.int IntKind.u8 (a:Int)) <$> Rtype.kind t) #[.pointer (some ⟨3,174,none⟩)]).run prog w=.ok (.int .u8 25) w:=by kernel_rfl
def zxc(z:Sem Value)(f:TypeId->Addr->Nat->Nat->Sem Value)(v:Value):
  ReflectliteValue.method z f #[v]=(do match ←ReflectliteValue.parts v with|none=>z|some (t,a,fl)=>f t a fl (fl%32)):=rfl
def zlt(a:Addr)(w:World):(ReflectliteValue.parts (.agg #[.pointer (some ⟨3,176,none⟩),.pointer (some a),.int .u64 150])).run prog w=.ok (some (176,a,150)) w:=by kernel_rfl
def zuT(a p:Addr)(W:World)(ha:W.cell? a=some (.pointer (some p))):
  (ReflectliteValue.method (ReflectliteValue.valueError "reflectlite.Value.IsNil" 0) ReflectliteValue.isNil #[.agg #[.pointer (some ⟨3,176,none⟩),.pointer (some a),.int .u64 150]]).run prog W=.ok (.bool false) W:=by
 rw[zxc];simp only[Sem.run_bind,zlt,Result.andThen];simp[ReflectliteValue.isNil,loadVar,isAgg,underlying,Tryz.underlying176,ha,Result.andThen]
def zkX(h:Value)(w:World):(Go.method 555 301 (.agg #[h]) "Elem").run prog w=.ok (535,.agg #[h]) w:=by kernel_rfl
def zec(h:Value)(w:World):(Go.method 555 301 (.agg #[h]) "Implements").run prog w=.ok (536,.agg #[h]) w:=by kernel_rfl
def zcA(h:Value)(w:World):(Go.method 555 301 (.agg #[h]) "AssignableTo").run prog w=.ok (533,.agg #[h]) w:=by kernel_rfl
def zxd(w:World):(ReflectliteType.method ReflectliteType.elem #[.agg #[.pointer (some ⟨3,176,none⟩)]]).run prog w=.ok (.iface 301 (.agg #[.pointer (some ⟨3,174,none⟩)])) w:=by kernel_rfl
def zi4(w:World):(ReflectliteType.relation "Implements" ReflectliteType.implements_ #[.agg #[.pointer (some ⟨3,174,none⟩)],.iface 301 (.agg #[.pointer (some ⟨3,171,none⟩)])]).run prog w=.ok (.bool true) w:=by kernel_rfl
def zro(v:Value)(w:World):(ReflectliteType.typeOf #[.iface 174 v]).run prog w=.ok (.iface 301 (.agg #[.pointer (some ⟨3,174,none⟩)])) w:=by kernel_rfl
def zi5(w:World):(ReflectliteType.relation "AssignableTo" ReflectliteType.assignableTo #[.agg #[.pointer (some ⟨3,174,none⟩)],.iface 301 (.agg #[.pointer (some ⟨3,174,none⟩)])]).run prog w=.ok (.bool true) w:=by kernel_rfl
def zoP(c u:Value)(w:World):(ReflectliteValue.unpack (.iface 174 (.agg #[c,u]))).run prog w
  =.ok (.agg #[.pointer (some ⟨3,174,none⟩),.pointer (some ⟨w.heap.size,0,none⟩),.int .u64 153]) (w.alloc (.cells #[c,u] 174)):=by kernel_rfl
def zrp(w:World):(Rtype.elem? 176).run prog w=.ok (some 174) w:=by kernel_rfl
def zDU(p:Addr)(w:World):(ReflectliteValue.mk 174 p ReflectliteValue.flagAddr).run prog w=.ok (.agg #[.pointer (some ⟨3,174,none⟩),.pointer (some p),.int .u64 409]) w:=by kernel_rfl
def zuU(a p:Addr)(W:World)(ha:W.cell? a=some (.pointer (some p))):
  (ReflectliteValue.method (ReflectliteValue.valueError "reflectlite.Value.Elem" 0) ReflectliteValue.elem #[.agg #[.pointer (some ⟨3,176,none⟩),.pointer (some a),.int .u64 150]]).run prog W
   =.ok (.agg #[.pointer (some ⟨3,174,none⟩),.pointer (some p),.int .u64 409]) W:=by
 rw[zxc];simp only[Sem.run_bind,zlt,Result.andThen];simp[ReflectliteValue.elem,loadVar,isAgg,underlying,Tryz.underlying176,ha,Result.andThen,zrp,zDU]
def zDV(v x:Value):ReflectliteValue.set #[v,x]=(do
  let (some (dst,a,fl),some (src,b,_)):=(←ReflectliteValue.parts v,←ReflectliteValue.parts x)
   |unsupported (.noEntry "extern/(internal/reflectlite.Value).Set.zeroValue")
  if fl/ReflectliteValue.flagAddr%2==0 then unsupported (.noEntry "extern/(internal/reflectlite.Value).Set.unaddressable")
  let val ←loadVar src b
  if ←Rtype.directlyAssignable dst src then storeVar dst a val
  else if ←Rtype.implements dst src then
   if (←Rtype.kind src)==20 then
    match val with
    |.nilIface=>unsupported (.noEntry "extern/reflectlite: a nil value of one interface type handed on as a value of another")
    |_=>storeVar dst a val
   else storeVar dst a (.iface src val)
  else panicString ("reflectlite.Set: value of type " ++(←Rtype.spelt src)++ " is not assignable to type " ++(←Rtype.spelt dst))
  pure (.tuple #[])):=rfl
def zrq(a:Addr)(w:World):(ReflectliteValue.parts (.agg #[.pointer (some ⟨3,174,none⟩),.pointer (some a),.int .u64 409])).run prog w=.ok (some (174,a,409)) w:=by kernel_rfl
def zuV(a:Addr)(w:World):(ReflectliteValue.parts (.agg #[.pointer (some ⟨3,174,none⟩),.pointer (some a),.int .u64 153])).run prog w=.ok (some (174,a,153)) w:=by kernel_rfl
def zrr(w:World):(Rtype.directlyAssignable 174 174).run prog w=.ok true w:=by kernel_rfl
def zoQ:∃i,ti tt 174=some i/\i.sz=2/\i.kind.agg=true:=⟨_,rfl,rfl,rfl⟩
def zxe(c u:Value)(s:Nat)(W:World)(h:W.heap[s]?=some (.cells #[c,u] 174 (0,0))):
  (loadVar 174 ⟨s,0,none⟩).run prog W=.ok (.agg #[c,u]) W:=by
 obtain⟨i,hi,hs,ha⟩:=zoQ;have hT:=tok _ i hi
 have hl:=run_loadCells_list (P:=prog) W ⟨s,0,none⟩ [c,u] (λj v hv=>by
  rw[jx]
  match j,hv with
  |0,hv=>cases hv;simp[World.cell?,h]
  |1,hv=>cases hv;simp[World.cell?,h]
  |j+2,hv=>simp at hv)
 unfold loadVar;rw[Sem.run_bind,hT.agg W,Result.andThen_ok,ha];simp only[if_true,Sem.run_bind,hT.size,Result.andThen_ok,hs];simp at hl;simp[hl]
def zuW(c u:Value)(b:Nat)(cur:Array Value)(W:World)(hc:cur.size=2)(h:W.heap[b]?=some (.cells cur 174 (0,0)))(h1:c.oneCell'=true)(h2:u.oneCell'=true):
  (storeVar 174 ⟨b,0,none⟩ (.agg #[c,u])).run prog W=.ok () (W.setRow b #[c,u]):=by
 obtain⟨i,hi,hs,ha⟩:=zoQ
 have:=uH (tok _ i hi) (v:=.agg #[c,u]) (off:=0) h (by rw[hs];rfl) (by rw[hs,hc];decide) (λx hx=>by
  have hx:x∈[c,u]:=hx;simp only[XD,XR,or_false]at hx
  rcases hx with rfl|rfl <;> assumption)
 rw[this,KB (by simp[hs,hc]:cur.toList.length<=0+i.sz),YC,QC,XM];rfl
def zAR(b s:Nat)(c u:Value)(cur:Array Value)(W:World)(hs:W.heap[s]?=some (.cells #[c,u] 174 (0,0)))(hc:cur.size=2)(hb:W.heap[b]?=some (.cells cur 174 (0,0)))(h1:c.oneCell'=true)(h2:u.oneCell'=true):
  (ReflectliteValue.set #[.agg #[.pointer (some ⟨3,174,none⟩),.pointer (some ⟨b,0,none⟩),.int .u64 409],.agg #[.pointer (some ⟨3,174,none⟩),.pointer (some ⟨s,0,none⟩),.int .u64 153]]).run prog W
   =.ok (.tuple #[]) (W.setRow b #[c,u]):=by
 rw[zDV];simp only[Sem.run_bind,zrq,zuV,Result.andThen];simp[ReflectliteValue.flagAddr,zxe c u s W hs,zrr,zuW c u b cur W hc hb h1 h2,Result.andThen]
def zuX(b:Nat)(c u:Value)(cur:Array Value)(w:World)(hg:w.cell? ⟨0,0,none⟩=some (.iface 301 (.agg #[.pointer (some ⟨3,171,none⟩)])))(hc:cur.size=2)(hb:w.heap[b]?=some (.cells cur 174 (0,0)))(h1:c.oneCell'=true)(h2:u.oneCell'=true):
  Calls prog 153 #[.iface 174 (.agg #[c,u]),.iface 176 (.pointer (some ⟨b,0,none⟩))] w λev w'=>ev=.returned (.bool true)/\w'=((((w.alloc (.cells #[.pointer (some ⟨b,0,none⟩)] 176)).alloc (.cells #[.pointer (some ⟨3,176,none⟩),.pointer (some ⟨w.heap.size,0,none⟩),.int .u64 150] 233)).alloc (.cells #[.pointer (some ⟨3,176,none⟩),.pointer (some ⟨w.heap.size,0,none⟩),.int .u64 150] 233)).alloc (.cells #[c,u] 174)).setRow b #[c,u]:=by
 have hV:=@run_callFunc_extern prog 225 _ (λargs=>ReflectliteValue.unpack (args.getD 0 (.tuple #[]))) func225 (by kernel_rfl) (by kernel_rfl) (by kernel_rfl) (by kernel_rfl);have hTy:=@run_callFunc_extern prog 226 _ (ReflectliteValue.methodAny (ReflectliteValue.valueError "reflectlite.Value.Type" 0) (λt _ _ _=>ReflectliteType.toType t)) func226 (by kernel_rfl) (by kernel_rfl) (by kernel_rfl) (by kernel_rfl)
 have hN:=@run_callFunc_extern prog 227 _ (ReflectliteValue.method (ReflectliteValue.valueError "reflectlite.Value.IsNil" 0) ReflectliteValue.isNil) func227 (by kernel_rfl) (by kernel_rfl) (by kernel_rfl) (by kernel_rfl);have hK:=@run_callFunc_extern prog 524 _ (ReflectliteType.abiMethod λt=>do pure (.int .u8 (←Rtype.kind t))) func524 (by kernel_rfl) (by kernel_rfl) (by kernel_rfl) (by kernel_rfl)
 have hE:=@run_callFunc_extern prog 535 _ (ReflectliteType.method ReflectliteType.elem) func535 (by kernel_rfl) (by kernel_rfl) (by kernel_rfl) (by kernel_rfl);have hI:=@run_callFunc_extern prog 536 _ (ReflectliteType.relation "Implements" ReflectliteType.implements_) func536 (by kernel_rfl) (by kernel_rfl) (by kernel_rfl) (by kernel_rfl);have hO:=@run_callFunc_extern prog 297 _ ReflectliteType.typeOf func297 (by kernel_rfl) (by kernel_rfl) (by kernel_rfl) (by kernel_rfl)
 have hA:=@run_callFunc_extern prog 533 _ (ReflectliteType.relation "AssignableTo" ReflectliteType.assignableTo) func533 (by kernel_rfl) (by kernel_rfl) (by kernel_rfl) (by kernel_rfl);have hEl:=@run_callFunc_extern prog 298 _ (ReflectliteValue.method (ReflectliteValue.valueError "reflectlite.Value.Elem" 0) ReflectliteValue.elem) func298 (by kernel_rfl) (by kernel_rfl) (by kernel_rfl) (by kernel_rfl);have hS:=@run_callFunc_extern prog 299 _ ReflectliteValue.set func299 (by kernel_rfl) (by kernel_rfl) (by kernel_rfl) (by kernel_rfl);have tO:=zro
 have mA:=zcA;have aW:=zi5;have vW:=zoP;have f6:=zoO;have f7:=zw9;have mK:=zkW;have mE:=zkX;have mI:=zec;have kP:=zxa;have kW:=zxb;have eP:=zxd;have iW:=zi4;have n8:=zuT ⟨w.heap.size,0,none⟩ ⟨b,0,none⟩ ((w.alloc (.cells #[.pointer (some ⟨b,0,none⟩)] 176)).alloc (.cells #[.pointer (some ⟨3,176,none⟩),.pointer (some ⟨w.heap.size,0,none⟩),.int .u64 150] 233)) sI;have hlt:0<w.heap.size:=ziv hg
 have hg2:((w.alloc (.cells #[.pointer (some ⟨b,0,none⟩)] 176)).alloc (.cells #[.pointer (some ⟨3,176,none⟩),.pointer (some ⟨w.heap.size,0,none⟩),.int .u64 150] 233)).cell? ⟨0,0,none⟩=some (.iface 301 (.agg #[.pointer (some ⟨3,171,none⟩)])):=by
  rw[World.cell?_alloc_lt _ _ ⟨0,0,none⟩ (by first|(simp;done)|(simp;omega)),World.cell?_alloc_lt _ _ ⟨0,0,none⟩ hlt];exact hg
 have htl:b<w.heap.size:=by
  rcases X7 b w.heap.size with h|h
  ·exact h
  rw[K3 h]at hb;cases hb
 have el:=zuU ⟨w.heap.size,0,none⟩ ⟨b,0,none⟩ (((w.alloc (.cells #[.pointer (some ⟨b,0,none⟩)] 176)).alloc (.cells #[.pointer (some ⟨3,176,none⟩),.pointer (some ⟨w.heap.size,0,none⟩),.int .u64 150] 233)).alloc (.cells #[.pointer (some ⟨3,176,none⟩),.pointer (some ⟨w.heap.size,0,none⟩),.int .u64 150] 233)) (by rw[World.cell?_alloc_lt _ _ ⟨w.heap.size,0,none⟩ (by first|(simp;done)|(simp;omega))];simp)
 have st:=zAR b (w.heap.size+1+1+1) c u cur ((((w.alloc (.cells #[.pointer (some ⟨b,0,none⟩)] 176)).alloc (.cells #[.pointer (some ⟨3,176,none⟩),.pointer (some ⟨w.heap.size,0,none⟩),.int .u64 150] 233)).alloc (.cells #[.pointer (some ⟨3,176,none⟩),.pointer (some ⟨w.heap.size,0,none⟩),.int .u64 150] 233)).alloc (.cells #[c,u] 174))
  (by have:=heap_alloc_new (((w.alloc (.cells #[.pointer (some ⟨b,0,none⟩)] 176)).alloc (.cells #[.pointer (some ⟨3,176,none⟩),.pointer (some ⟨w.heap.size,0,none⟩),.int .u64 150] 233)).alloc (.cells #[.pointer (some ⟨3,176,none⟩),.pointer (some ⟨w.heap.size,0,none⟩),.int .u64 150] 233)) (.cells #[c,u] 174);simpa using this) hc
  (by rw[heap_alloc_old _ _ (by first|(simp;done)|(simp;omega)),heap_alloc_old _ _ (by first|(simp;done)|(simp;omega)),heap_alloc_old _ _ (by first|(simp;done)|(simp;omega)),heap_alloc_old _ _ htl];exact hb) h1 h2
 go_enter func153,Tryz.ntmps153
 go_wp2
 refine wp_loop_rounds 1 ?_;rw[rounds_succ]
 go_wp2
 go_ret
 exact⟨rfl,rfl⟩
open Go.Proofs
inductive Er
 |nil
 |w (c:Int) (u:Er)
def erV:Er->Value
 |.nil=>.nilIface
 |.w c u=>.iface 174 (.agg #[.int .i64 c,erV u])
def er_if(e:Er):ifB (erV e)=true:=by cases e <;> rfl
def zxh(e:Er):(erV e).oneCell'=true:=by cases e <;> rfl
def zxi(e:Er):LQ:=[.op (erV e)]
def LE_er{c:Int}{u:Er}:LE (.ifc 174 (.agg [i64 c,.op (erV u)])) (.op (erV (.w c u))):=λS Pm ρ w v hg=>by
 obtain⟨x,rfl,hx⟩:=hg.ifc_inv;obtain⟨vs,rfl,hvs⟩:=hx.agg_inv;obtain⟨a,r,rfl,ha,hr⟩:=hvs.cons_inv;obtain⟨b,r',rfl,hb,hr'⟩:=hr.cons_inv;rw[hr'.nil_inv,ha.val_inv,hb.op_inv.1];exact .d _ _ (.op _ rfl)
def zDW{c:Int}:LE (.ifc 174 (.agg [i64 c,.val .nilIface])) (.op (erV (.w c .nil))):=λS Pm ρ w v hg=>by
 obtain⟨x,rfl,hx⟩:=hg.ifc_inv;obtain⟨vs,rfl,hvs⟩:=hx.agg_inv;obtain⟨a,r,rfl,ha,hr⟩:=hvs.cons_inv;obtain⟨b,r',rfl,hb,hr'⟩:=hr.cons_inv;rw[hr'.nil_inv,ha.val_inv,hb.val_inv];exact .d _ _ (.op _ rfl)
def kB(p:Prop)[Decidable p](c:Int):Er:=if p then .w c .nil else .nil
def zav:List Er->Er
 |[]=>.nil
 |.nil::r=>zav r
 |.w c u::_=>.w 0 (.w c u)
def zi6:∀{l:List Er},(∀e∈l,e=.nil)->zav l=.nil
 |[],_=>rfl
 |.nil::r,h=>zi6 (l:=r) λe he=>h e (.tail _ he)
 |.w c u::_,h=>by cases h _ (.head _)
def zi7:∀{l:List Er} {i:Nat} {c:Int} {u:Er},(∀e∈l.take i,e=.nil)->l[i]?=some (.w c u)->zav l=.w 0 (.w c u)
 |[],i,c,u,_,hx=>by simp at hx
 |e::r,0,c,u,_,hx=>by simp at hx;subst hx;rfl
 |e::r,i+1,c,u,h,hx=>by
  have he:e=.nil:=h e (by rw[Ko];exact .head _);subst he;exact zi7 (l:=r) (i:=i) (λe he=>h e (by rw[Ko];exact .tail _ he)) (by simpa using hx)
def jO(p:Prop)[Decidable p](c:Int):CX 217 [pr p,i64 c] (.op (erV (kB p c))):=by
 refine zd func217<|Br.mk (λh=>?_) (λh=>?_)
 ·rw[kB,Xb h];exact zs0 rfl
 rw[kB,Xe (Xc.1 h)];exact zDW
def znc(l:List Er):CX 216 [.sl zxi l] (.op (erV (zav l))):=by
 refine zd func216 λhl=>?_;refine⟨Nat,λi=>⟨[(7,i64 i),(6,i64 l.length),(5,.sl zxi l)],[],0,17,0⟩,λi=>i<=l.length/\∀e∈l.take i,e=.nil,λi=>l.length-i,0,⟨Xg _,λt ht=>by cases ht⟩,zA [],?_⟩
 rintro i ⟨h1,h2⟩
 refine⟨λg:(i:Int)<l.length=>?_,λg:¬(i:Int)<l.length=>?_⟩
 ·refine wb λx(hx:l[i]?=some x)=>?_;refine⟨λh=>?_,λh=>?_⟩
  ·cases x with
   |nil=>exact absurd rfl h
   |w c u=>rw[zi7 h2 hx];exact LE_er
  cases x with
  |w c u=>exact absurd (λh=>by cases h) h
  |nil=>
   refine wa<|⟨i+1,⟨oM,λe he=>?_⟩,zA [],oN⟩;rw[Xm,hx]at he
   rcases Xr.1 he with he|he
   ·exact h2 e he
   simpa using he
 rw[Xk oM]at h2;rw[zi6 h2];exact zs0 rfl
def glE:GL 0 (.iface 301 (.agg #[.pointer (some ⟨3,171,none⟩)])):=.head _
def zhy:zcD prog 153:=⟨_,func153,rfl,rfl⟩
def zoR(x y:SV):CG0 153 [.op (erV .nil),.ifc 176 (.loc 0 0)] [(0,.box 174 [x,y])] (bl false) [(0,.box 174 [x,y])]:=by
 refine⟨zhy,λKeep ρ w vs _ hm hρ hg=>?_⟩;obtain⟨a,r,rfl,ha,hr⟩:=hg.cons_inv;obtain⟨b,r',rfl,hb,hr'⟩:=hr.cons_inv;obtain rfl:=hr'.nil_inv;obtain rfl:=ha.op_inv.1;refine(zuS b w).mono ?_
 rintro e w' ⟨rfl,rfl⟩
 exact⟨_,ρ,rfl,.refl,hm,.d _ _ (.val _)⟩
def zB.more{Keep:LG}{M:LT}{ρ:ze}{w:World}(hm:zB Keep M ρ w)(c:Array Value)(t:TypeId):Stp (Own M ρ) (Own M ρ) ρ ρ w (w.alloc (.cells c t))/\zB Keep M ρ (w.alloc (.cells c t)):=
 hm.same rfl rfl (.cells _ _ _) sI (λb hb=>heap_alloc_old w _ hb)
def zoS(c:Int)(u:Er)(x y:SV):CG0 153 [.op (erV (.w c u)),.ifc 176 (.loc 0 0)] [(0,.box 174 [x,y])] (bl true) [(0,.box 174 [i64 c,.op (erV u)])]:=by
 refine⟨zhy,λKeep ρ w vs _ hm hρ hg=>?_⟩;obtain⟨a,r,rfl,ha,hr⟩:=hg.cons_inv;obtain⟨b,r',rfl,hb,hr'⟩:=hr.cons_inv;obtain rfl:=hr'.nil_inv;obtain rfl:=ha.op_inv.1;obtain⟨p,rfl,hp⟩:=hb.ifc_inv;obtain⟨k,hk,rfl⟩:=hp.loc_inv;obtain⟨k',cs,hρ0,hheap,hlen,hone,hcells⟩:=hm.rel 0 _ (.head _);rw[hk]at hρ0;cases hρ0
 refine(zuX k (.int .i64 c) (erV u) cs.toArray w (hm.glc glE) (by simp[hlen]) hheap rfl (zxh u)).mono ?_
 rintro e w' ⟨rfl,rfl⟩
 obtain⟨s1,m1⟩:=hm.more #[.pointer (some ⟨k,0,none⟩)] 176;obtain⟨s2,m2⟩:=m1.more #[.pointer (some ⟨3,176,none⟩),.pointer (some ⟨w.heap.size,0,none⟩),.int .u64 150] 233;obtain⟨s3,m3⟩:=m2.more #[.pointer (some ⟨3,176,none⟩),.pointer (some ⟨w.heap.size,0,none⟩),.int .u64 150] 233;obtain⟨s4,m4⟩:=m3.more #[.int .i64 c,erV u] 174;obtain⟨k2,cs2,hρ2,hheap2,hlen2,_,_⟩:=m4.rel 0 _ (.head _);rw[hk]at hρ2;cases hρ2
 obtain⟨s5,m5⟩:=m4.write (.box 174 [i64 c,.op (erV u)]) (.head _) hk rfl #[.int .i64 c,erV u] λhs=>
  ⟨k,[.int .i64 c,erV u],hk,by simpa using setRow_heap _ k _ _ 174 _ hheap2,rfl,λv hv=>by
   simp only[XD,XR,or_false]at hv
   rcases hv with rfl|rfl
   ·rfl
   ·exact zxh u,λj s v hs hv=>by
   match j with
   |0=>cases hs;cases hv;exact .d _ _ (.val _)
   |1=>cases hs;cases hv;exact .d _ _ (.op _ (er_if u))
   |j+2=>simp at hs⟩
 exact⟨_,ρ,rfl,(((s1.trans s2).trans s3).trans s4).trans s5,m5,.d _ _ (.val _)⟩
end Go.Gs
namespace Go.Gs
open Go.ChangeShapes Go.WideShapes Go.Deep Go.Joins Go.RowKit
section
variable{H:Type}{enc:TypeId×Value->H}{P:Program}{w:World}{base:Nat}{held:Bool}
end
def args_stay{H:Type}{enc:TypeId×Value->H}{P:Program}(hl:laidOutB P=true){W W':World}(hb:Below W.heap.size W W'){sp:Nat->Bool}:
  ∀{ts:List TypeId} {vs:LZ} {ds:List (DataW H)} {ps:List MemPlace},(ts.all λt=>P.readableRec t&&decide (t<P.types.size))=true->
   DataW.TrodAll enc P W 0 (λ_=>true) true ts vs ds ps->(∀p∈ps,p.block<W.heap.size)->(∀p∈ps,sp p.block=true)->DataW.TrodAll enc P W' 0 sp true ts vs ds ps
 |[],[],[],_,_,h,_,_=>h
 |t::ts,v::vs,d::ds,ps,hts,⟨p,q,h1,h2,e⟩,hlt,hsp=>by
  simp only[YF,XC,decide_eq_true_eq]at hts;have e1:∀x∈p,x∈ps:=λx hx=>by rw[e];exact KM _ hx
  have e2:∀x∈q,x∈ps:=λx hx=>by rw[e];exact KF _ hx
  refine⟨p,q,WideElems.Trod_stays hl hts.1.1 hts.1.2 h1 (λx hx=>hb.same (hlt x (e1 x hx))) (λx hx=>hsp x (e1 x hx)),args_stay hl hb (by simpa using hts.2) h2 (λx hx=>hlt x (e2 x hx)) (λx hx=>hsp x (e2 x hx)),e⟩
end Go.Gs
namespace Go.Gs
open Proofs.Tryz
open Go.ChangeShapes Go.WideShapes Go.Deep Go.Joins Go.RowKit
section
inductive Sh
 |int (k:IntKind)
 |bool
 |sl (e:Sh)
 |st (fs:Sh)
 |ar (es:Sh)
 |nil
 |cons (f r:Sh)
def Sh.T:Sh->Type
 |.int _=>Int
 |.bool=>Bool
 |.sl e=>List e.T
 |.st fs=>fs.T
 |.ar es=>es.T
 |.nil=>Unit
 |.cons f r=>f.T×r.T
def Sh.dflt:(s:Sh)->s.T
 |.int _=>(0:Int)
 |.bool=>false
 |.sl _=>[]
 |.st fs=>fs.dflt
 |.ar es=>es.dflt
 |.nil=>()
 |.cons f r=>(f.dflt,r.dflt)
def Sh.n:Sh->Nat
 |.int _=>1
 |.bool=>1
 |.sl _=>1
 |.st fs=>fs.n
 |.ar es=>es.n
 |.nil=>0
 |.cons f r=>f.n+r.n
def Sh.enc:(s:Sh)->s.T->LQ
 |.int k,n=>[.val (.int k n)]
 |.bool,b=>[.pr (@Eq Bool b true) (instDecidableEqBool b true)]
 |.sl e,xs=>[.sl e.enc xs]
 |.st fs,x=>fs.enc x
 |.ar es,x=>es.enc x
 |.nil,_=>[]
 |.cons f r,x=>f.enc x.1++r.enc x.2
def Sh.wf:(s:Sh)->s.T->Prop
 |.int k,n=>(Lit.int k n).wf=true
 |.bool,_=>True
 |.sl e,xs=>∀x:e.T,@Membership.mem e.T (List e.T) _ xs x->e.wf x
 |.st fs,x=>fs.wf x
 |.ar es,x=>es.wf x
 |.nil,_=>True
 |.cons f r,x=>f.wf x.1/\r.wf x.2
def Sh.fit(P:Program):Sh->(TypeId->Bool)×(List Field->Nat->Bool)×(Nat->TypeId->Bool)
 |.int k=>(λt=>match P.underlying t with
  |some (.int k')=>zqX k k'&&Nat.beq (P.cellsOf t) 1
  |_=>false,λ_ _=>false,λ_ _=>false)
 |.bool=>(λt=>match P.underlying t with
  |some .bool=>Nat.beq (P.cellsOf t) 1
  |_=>false,λ_ _=>false,λ_ _=>false)
 |.sl e=>(λt=>match P.underlying t with
  |some (.slice u)=>(e.fit P).1 u&&Nat.beq (P.cellsOf t) 1&&Nat.blt 0 e.n
  |_=>false,λ_ _=>false,λ_ _=>false)
 |.st fs=>(λt=>match P.underlying t with
  |some (.struct gs)=>(fs.fit P).2.1 gs.toList 0&&Nat.beq (P.cellsOf t) fs.n
  |_=>false,λ_ _=>false,λ_ _=>false)
 |.ar es=>(λt=>match P.underlying t with
  |some (.array n u)=>(es.fit P).2.2 n u&&Nat.beq (P.cellsOf t) es.n
  |_=>false,λ_ _=>false,λ_ _=>false)
 |.nil=>(λ_=>false,λgs _=>match gs with
  |[]=>true
  |_=>false,λn _=>match n with
  |0=>true
  |_=>false)
 |.cons f r=>(λ_=>false,λgs off=>match gs with
  |[]=>false
  |g::gs=>Nat.beq g.offset off&&(f.fit P).1 g.type&&(r.fit P).2.1 gs (off+f.n),λn u=>match n with
  |0=>false
  |n+1=>(f.fit P).1 u&&(r.fit P).2.2 n u)
def Sh.enc_len:∀(s:Sh) (x:s.T),(s.enc x).length=s.n
 |.int _,_=>rfl
 |.bool,_=>rfl
 |.sl _,_=>rfl
 |.st fs,x=>Sh.enc_len fs x
 |.ar es,x=>Sh.enc_len es x
 |.nil,_=>rfl
 |.cons f r,x=>by
  show(f.enc x.1++r.enc x.2).length=f.n+r.n;rw[Xp,Sh.enc_len f,Sh.enc_len r]
def Dc(S:LG)(w:World)(cs:LQ)(vs:LZ):Prop:=
 vs.length=cs.length/\∀(j:Nat) (s:SV) (v:Value),cs[j]?=some s->vs[j]?=some v->D S w s v/\v.oneCell'=true
variable{S:LG}
def Dc.nil{w:World}:Dc S w [] []:=⟨rfl,λj s v h=>by simp at h⟩
def Dc.append{w:World}{cs ds:LQ}{vs us:LZ}(h:Dc S w cs vs)(k:Dc S w ds us):Dc S w (cs++ds) (vs++us):=by
 refine⟨by rw[Xp,Xp,h.1,k.1],λj s v hs hv=>?_⟩
 by_cases hj:j<cs.length
 ·rw[XH hj]at hs;rw[XH (by rw[h.1];exact hj)]at hv;exact h.2 j s v hs hv
 rw[XB oM]at hs;rw[XB (by rw[h.1];omega),h.1]at hv;exact k.2 _ s v hs hv
def Dc.one{w:World}{s:SV}{v:Value}(h:D S w s v)(ho:v.oneCell'=true):Dc S w [s] [v]:=⟨rfl,λj s' v' hs hv=>by
 match j with
 |0=>simp at hs hv;subst hs;subst hv;exact⟨h,ho⟩
 |j+1=>simp at hs⟩
end
section
variable{H:Type}{enc:TypeId×Value->H}{P:Program}{W:World}{held:Bool}
def zj0(L:LZ)(off a b:Nat):(L.drop off).take (a+b)=(L.drop off).take a++(L.drop (off+a)).take b:=by
 rw[List.take_add,JY]
def zBK:∀s:Sh,
  ((∀(t:TypeId) (fuel:Nat) (L:LZ) (x:DataW H×List MemPlace),(s.fit P).1 t=true->DataW.trod enc P W 0 (λ_=>true) held fuel t L=some x->
   P.cellsOf t=s.n/\L.length=s.n/\∃y:s.T,s.wf y/\∀S:LG,(∀b,¬S b)->Dc S W (s.enc y) L))/\
  (∀(gs:List Field) (off m:Nat) (L:LZ),(s.fit P).2.1 gs off=true->(∀g∈gs,∃x,DataW.trod enc P W 0 (λ_=>true) held m g.type ((L.drop g.offset).take (P.cellsOf g.type))=some x)->
   ∃y:s.T,s.wf y/\∀S:LG,(∀b,¬S b)->Dc S W (s.enc y) ((L.drop off).take s.n))/\
  (∀(n i m:Nat) (u:TypeId) (L:LZ),(s.fit P).2.2 n u=true->(∀j,j<n->∃x,DataW.trod enc P W 0 (λ_=>true) held m u ((L.drop ((i+j)*P.cellsOf u)).take (P.cellsOf u))=some x)->
   ∃y:s.T,s.wf y/\∀S:LG,(∀b,¬S b)->Dc S W (s.enc y) ((L.drop (i*P.cellsOf u)).take s.n)):=by
 intro s
 induction s with
 |int k=>
  refine⟨λt fuel L x hf h=>?_,λ_ _ _ _ hf _=>(by cases hf),λ_ _ _ _ _ hf _=>(by cases hf)⟩;unfold Sh.fit at hf;dsimp only at hf
  split at hf
  ·rename_i k' hk;simp only[XC]at hf;obtain⟨hk',hc⟩:=hf;have hk':=zfl hk';subst hk';obtain⟨q,rfl,_,hw⟩:=DataW.trod_int hk h;exact⟨Xh hc,rfl,q,hw,λS _=>.one (.val _) rfl⟩
  cases hf
 |bool=>
  refine⟨λt fuel L x hf h=>?_,λ_ _ _ _ hf _=>(by cases hf),λ_ _ _ _ _ hf _=>(by cases hf)⟩;unfold Sh.fit at hf;dsimp only at hf
  split at hf
  ·rename_i hk;obtain⟨b,rfl,_⟩:=DataW.trod_bool hk h;refine⟨Xh hf,rfl,b,tV,λS _=>.one ?_ rfl⟩;have:=D.pr (S:=S) (w:=W) (b=true) inferInstance
   rwa [show decide (b=true)=b by cases b <;> rfl]at this
  cases hf
 |sl e ih=>
  refine⟨λt fuel L x hf h=>?_,λ_ _ _ _ hf _=>(by cases hf),λ_ _ _ _ _ hf _=>(by cases hf)⟩;unfold Sh.fit at hf;dsimp only at hf
  split at hf
  ·rename_i u hk;simp only[XC]at hf;obtain⟨⟨he,hc⟩,hpos⟩:=hf;have hpos:0<e.n:=by simpa using hpos
   refine⟨Xh hc,?_⟩
   obtain⟨rfl,_⟩|⟨a,len,cap,m,n,Df,Pl,rfl,_,hl,hm,hmm,_,hi⟩:=open_slice hk h
   ·exact⟨rfl,([]:List e.T),λx hx=>(by cases hx),λS _=>.one (.nil _ _) rfl⟩
   have hmc:m=cap:=by simpa using hmm
   subst hmc;refine⟨rfl,?_⟩
   have key:∀i,i<m->∃cs',P.cellsOf u=e.n/\W.cells? 0 (a.add (i*e.n)) e.n=some cs'/\∃y:e.T,e.wf y/\∀S:LG,(∀b,¬S b)->Dc S W (e.enc y) cs':=λi hi'=>by
    obtain⟨cs',h1,h2⟩:=hi i hi';obtain⟨g1,g2,g3⟩:=ih.1 u n cs' _ he h2;rw[g1]at h1;exact⟨cs',g1,h1,g3⟩
   by_cases h0:m=0
   ·subst h0;have:len=0:=oM;subst this;exact⟨([]:List e.T),λx hx=>(by cases hx),λS _=>.one (.nil _ _) rfl⟩
   have hspot:a.spot=none/\a.block<W.heap.size:=by
    obtain⟨cs',_,h1,_⟩:=key 0 oM;obtain⟨_,_,hat⟩:=World.cells?_some h1;have h2:=hat 0 hpos;have hlen:cs'.length=e.n:=by obtain⟨_,hl,_⟩:=World.cells?_some h1;exact hl
    rw[Xa oM,Jq]at h2;have:(a.add 0).add 0=a:=by unfold Addr.add;simp
    rw[this]at h2;unfold World.cell? at h2
    split at h2
    ·rename_i hb
     split at h2
     ·cases h2
     rename_i hs;refine⟨by simpa using hs,(X1.1 hb).1⟩
    cases h2
   obtain⟨b,o,sp⟩:=a;obtain⟨hs,hb⟩:=hspot;have hs:sp=none:=hs;subst hs
   haveI:Inhabited e.T:=⟨e.dflt⟩
   obtain⟨F,hF⟩:=choose_lt (α:=e.T) (n:=m) (p:=λi y=>∃cs',W.cells? 0 (Addr.add ⟨b,o,none⟩ (i*e.n)) e.n=some cs'/\e.wf y/\∀S:LG,(∀b,¬S b)->Dc S W (e.enc y) cs') (λi hi'=>by
    obtain⟨cs',_,h1,y,hy,hd⟩:=key i hi'
    exact⟨y,cs',h1,hy,hd⟩)
   refine⟨(List.range len).map F,λx hx=>?_,λS hS=>.one ?_ rfl⟩
   ·obtain⟨i,hi',rfl⟩:=XL.1 hx;obtain⟨_,_,hw,_⟩:=hF i (by have:=XT.1 hi';omega);exact hw
   have at1:∀i j,i<m->j<e.n->∃v,W.cell? ⟨b,o+i*e.n+j,none⟩=some v/\v.oneCell'=true/\∀s,(e.enc (F i))[j]?=some s->D S W s v:=λi j hi' hj=>by
    obtain⟨cs',h1,_,hd⟩:=hF i hi';obtain⟨_,hlen,hat⟩:=World.cells?_some h1;have h2:=hat j hj;rw[Xa oM,add_add]at h2;have e1:Addr.add ⟨b,o,none⟩ (i*e.n+j)=⟨b,o+i*e.n+j,none⟩:=by rw[jx,←KE]
    rw[e1]at h2;have hd:=hd S hS;have hjl:j<(e.enc (F i)).length:=by rw[Sh.enc_len];exact hj
    have:=hd.2 j _ _ (Xa hjl) (Xa (show j<cs'.length by omega));refine⟨_,h2,this.2,λs hs=>?_⟩;exact(hd.2 j s _ hs (Xa (show j<cs'.length by omega))).1
   have hsl:=D.sl (S:=S) (w:=W) e.enc ((List.range len).map F) e.n b o m (λi j=>(W.cell? ⟨b,o+i*e.n+j,none⟩).getD undef) hb (hS b) (by simp;unfold maxLen at hm;omega) (by simpa using hl) (λx _=>Sh.enc_len e x) (λi j hi' hj=>by
    obtain⟨v,h1,h2,_⟩:=at1 i j (by simp at hi';omega) hj
    rw[h1];exact⟨rfl,h2⟩) (λi j x s hx hs=>by
    have hi':i<len:=by have:=(Xd.1 hx).1;simpa using this
    simp only[XA,KT hi',Qk,Jr]at hx;subst hx;have hj:j<e.n:=by have:=(Xd.1 hs).1;rw[Sh.enc_len]at this;exact this
    obtain⟨v,h1,_,h3⟩:=at1 i j oM hj
    rw[h1];exact h3 s hs)
   simpa using hsl
  cases hf
 |st fs ih=>
  refine⟨λt fuel L x hf h=>?_,λ_ _ _ _ hf _=>(by cases hf),λ_ _ _ _ _ hf _=>(by cases hf)⟩;unfold Sh.fit at hf;dsimp only at hf
  split at hf
  ·rename_i gs hk;simp only[XC]at hf;obtain⟨hg,hc⟩:=hf;have hc:=Xh hc;obtain⟨xs,m,_,_,hl,hxl,hfl⟩:=DataW.trod_struct hk h
   obtain⟨y,hy,hd⟩:=ih.2.1 gs.toList 0 m L hg (λg hg'=>by
    obtain⟨i,hi,rfl⟩:=Kn hg';have hi':i<gs.size:=by simpa using hi
    have:=hfl i gs[i] (by simp[hi'])
    exact⟨xs[i]'oM,by simpa[Xa (show i<xs.length by omega)] using this⟩)
   refine⟨hc,hl.trans hc,y,hy,λS hS=>?_⟩;have:=hd S hS;rw[K7,Xk (by show L.length<=fs.n;omega)]at this;exact this
  cases hf
 |ar es ih=>
  refine⟨λt fuel L x hf h=>?_,λ_ _ _ _ hf _=>(by cases hf),λ_ _ _ _ _ hf _=>(by cases hf)⟩;unfold Sh.fit at hf;dsimp only at hf
  split at hf
  ·rename_i n u hk;simp only[XC]at hf;obtain⟨hg,hc⟩:=hf;have hc:=Xh hc;obtain⟨xs,m,_,_,hl,hxl,hfl⟩:=DataW.trod_array hk h
   obtain⟨y,hy,hd⟩:=ih.2.2 n 0 m u L hg (λj hj=>by
    have:=hfl j hj
    exact⟨xs[j]'oM,by rw[X9,this,Xa (show j<xs.length by omega)]⟩)
   refine⟨hc,hl.trans hc,y,hy,λS hS=>?_⟩;have:=hd S hS;rw[Jq,K7,Xk (by show L.length<=es.n;omega)]at this;exact this
  cases hf
 |nil=>
  refine⟨λt fuel L x hf h=>(by cases hf),λgs off m L hf _=>⟨(),tV,λS _=>?_⟩,λn i m u L hf _=>⟨(),tV,λS _=>?_⟩⟩
  ·show Dc S W [] ((L.drop off).take 0);rw[YC];exact .nil
  show Dc S W [] ((L.drop _).take 0);rw[YC];exact .nil
 |cons f r ihf ihr=>
  refine⟨λt fuel L x hf h=>(by cases hf),λgs off m L hf hx=>?_,λn i m u L hf hx=>?_⟩
  ·unfold Sh.fit at hf;dsimp only at hf
   split at hf
   ·cases hf
   rename_i g gs;simp only[XC]at hf;obtain⟨⟨ho,h1⟩,h2⟩:=hf;have ho:=Xh ho;subst ho;obtain⟨x,hx0⟩:=hx g (XW ..);obtain⟨g1,g2,y,hy,hd⟩:=ihf.1 g.type m _ x h1 hx0;obtain⟨z,hz,he⟩:=ihr.2.1 gs (g.offset+f.n) m L h2 (λg' hg'=>hx g' (XO _ hg'));refine⟨(y,z),⟨hy,hz⟩,λS hS=>?_⟩;show Dc S W (f.enc y++r.enc z) ((L.drop g.offset).take (f.n+r.n));rw[zj0];have:=hd S hS;rw[g1]at this;exact this.append (he S hS)
  unfold Sh.fit at hf;dsimp only at hf
  split at hf
  ·cases hf
  rename_i n;simp only[XC]at hf;obtain⟨h1,h2⟩:=hf;obtain⟨x,hx0⟩:=hx 0 oM;obtain⟨g1,g2,y,hy,hd⟩:=ihf.1 u m _ x h1 hx0
  obtain⟨z,hz,he⟩:=ihr.2.2 n (i+1) m u L h2 (λj hj=>by
   have:=hx (j+1) oM
   rwa [show i+(j+1)=i+1+j by omega]at this)
  refine⟨(y,z),⟨hy,hz⟩,λS hS=>?_⟩;show Dc S W (f.enc y++r.enc z) ((L.drop (i*P.cellsOf u)).take (f.n+r.n));rw[zj0];have:=hd S hS;rw[XU,g1]at this;have he:=he S hS;rw[g1,X6,YD]at he;rw[g1];exact this.append he
end
def LEd(s r:SV):Prop:=∀(S:LG) (w:World) (v:Value),D S w s v->D S w r v
inductive qm:LQ->LQ->Prop
 |nil:qm [] []
 |cons {a b:SV} {us bs:LQ} (h:LEd a b) (t:qm us bs):qm (a::us) (b::bs)
def LEd.refl{s:SV}:LEd s s:=λ_ _ _ h=>h
def qm.refl:∀{us:LQ},qm us us
 |[]=>.nil
 |_::_=>.cons .refl .refl
def qm.C{a:SV}{us bs:LQ}(t:qm us bs):qm (a::us) (a::bs):=.cons .refl t
def qm.append{us bs cs ds:LQ}(h:qm us bs)(k:qm cs ds):qm (us++cs) (bs++ds):=by
 induction h with
 |nil=>exact k
 |cons h _ ih=>exact .cons h ih
def qm.ix{us bs:LQ}(h:qm us bs):us.length=bs.length/\∀(j:Nat) (s r:SV),us[j]?=some s->bs[j]?=some r->LEd s r:=by
 induction h with
 |nil=>exact⟨rfl,λj s r h=>by simp at h⟩
 |cons h t ih=>
  refine⟨by simp[ih.1],λj s r hs hr=>?_⟩
  cases j with
  |zero=>simp at hs hr;subst hs;subst hr;exact h
  |succ j=>exact ih.2 j s r (by simpa using hs) (by simpa using hr)
def LEd.sl{α β:Type}{e:α->LQ}{g:β->LQ}(f:α->β){xs:List α}(he:∀x∈xs,qm (e x) (g (f x))):LEd (.sl e xs) (.sl g (xs.map f)):=λS w v h=>by
 cases h with
 |nil _ a=>exact .nil g a
 |sl _ _ sz b o cap c hb hS hlen hcap hsz hc h=>
  have:=D.sl (S:=S) (w:=w) g (xs.map f) sz b o cap c hb hS (by simpa using hlen) (by simpa using hcap) (λy hy=>by
   obtain⟨x,hx,rfl⟩:=XL.1 hy
   rw[←(he x hx).ix.1];exact hsz x hx) (λi j hi hj=>hc i j (by simpa using hi) hj) (λi j y s hy hs=>by
   rw[XA]at hy
   cases hx:xs[i]? with
   |none=>simp[hx]at hy
   |some x=>
    simp[hx]at hy;subst hy;have he:=he x (Xf hx);have hj:j<(e x).length:=by rw[he.ix.1];exact(Xd.1 hs).1
    have hs0:=Xa hj
    exact he.ix.2 j _ s hs0 hs _ _ _ (h i j x _ hx hs0))
  simpa using this
def zr6{α β:Type}{e:α->LQ}{g:β->LQ}(f:α->β){xs:List α}(he:∀x∈xs,qm (e x) (g (f x))):LE (.sl e xs) (.sl g (xs.map f)):=λ_ _ _ _ _ hg=>.d _ _ (LEd.sl f he _ _ _ hg.sl_inv)
def qm.gs{us bs:LQ}(h:qm us bs){S Pm:LG}{ρ:ze}{w:World}{vs:LZ}(hd:vs.length=us.length/\∀(j:Nat) (s:SV) (v:Value),us[j]?=some s->vs[j]?=some v->D S w s v):Gs S Pm ρ w bs vs:=
 ⟨hd.1.trans h.ix.1,λj r v hr hv=>by
  have hj:j<us.length:=by rw[h.ix.1];exact(Xd.1 hr).1
  have hs:=Xa hj
  exact .d _ _ (h.ix.2 j _ r hs hr _ _ _ (hd.2 j _ v hs hv))⟩
section
variable{H:Type}{enc:TypeId×Value->H}{P:Program}{W:World}{held:Bool}
def zg2{b0:Nat}{t:TypeId}{v:Value}{d:DataW H}{p:List MemPlace}(s:Sh)(hf:(s.fit P).1 t=true)(ha:(match P.underlying t with|some (.struct _)=>true|some (.array _ _)=>true|_=>false)=true)(hv:Value.okWide P W .any b0 t v)(h:DataW.Trod enc P W 0 (λ_=>true) held t v d p):
  ∃y:s.T,s.wf y/\∀(g:LQ),qm (s.enc y) g->∀(S Pm:LG) (ρ:ze),(∀b,¬S b)->G S Pm ρ W (.agg g) v:=by
 obtain⟨fuel,hx⟩:=h;obtain⟨_,_,y,hy,hd⟩:=(zBK s).1 t fuel _ _ hf hx
 have:∃cs,v=.agg cs:=by
  unfold Value.okWide at hv
  split at ha
  ·rename_i h1;rw[h1]at hv;obtain⟨cs,rfl,_⟩:=hv;exact⟨cs,rfl⟩
  ·rename_i h1;rw[h1]at hv;obtain⟨cs,rfl,_⟩:=hv;exact⟨cs,rfl⟩
  cases ha
 obtain⟨cs,rfl⟩:=this;refine⟨y,hy,λg hg S Pm ρ hS=>?_⟩;have hd1:=hd S hS;have g1:=hg.gs (Pm:=Pm) (ρ:=ρ) ⟨hd1.1,λj s v hs hv=>(hd1.2 j s v hs hv).1⟩;have:=G.agg (S:=S) (Pm:=Pm) (ρ:=ρ) (w:=W) _ _ g1.1 g1.2
 rwa [show(Value.agg cs).cells.toList.toArray=cs from Array.toArray_toList]at this
end
open Go.Proofs
section
inductive Pw
 |d (q:Pl)
 |c (r:LR)
def pwE:Pw->LQ
 |.d q=>plE q
 |.c r=>[.sl ptE r,.val (.bool false)]
def pwP:Pw->Pl
 |.d q=>q
 |.c r=>⟨r,false⟩
def zvQ{q:Prop}{j:Decidable q}(h:¬q):LEd (.val (.bool false)) (.pr q j):=λS w v hd=>by
 cases hd
 have:=D.pr (S:=S) (w:=w) q j
 simpa[h] using this
def LE_pw(l:List Pw):LE (.sl pwE l) (.sl plE (l.map pwP)):=zr6 pwP λx _=>by
 cases x with
 |d q=>exact .refl
 |c r=>exact .C (.cons (zvQ (show¬(false=true) by decide)) .nil)
def zmd(p:Pl)(q:Nat×Nat):Pw:=if p.cl=true/\q.1=0/\(q.2:Int)=qf p then .d (zL p) else .c (zed (qP p) q.1 q.2)
def zBL(p:Pl)(q:Nat×Nat):pwP (zmd p q)=yF p q:=by
 unfold zmd yF
 split <;> rfl
def zvR(p:Pl)(l:List (Nat×Nat)):(l.map (zmd p)).map pwP=l.map (yF p):=by
 rw[Yi];exact Kg λq _=>zBL p q
variable{pen:Pen}
def zhO{long:Int}:∀q∈qt pen long,q.1<q.2/\(q.2:Int)<=long/\1<=long:=by
 intro q hq;unfold qt at hq
 split at hq
 ·cases hq
 rename_i h;have h1:¬long<1:=λk=>h (.inr (.inl k))
 split at hq
 ·have:=Xu.1 hq;subst this;dsimp only;omega
 have:=zrM q hq;omega
def zr7(p:Pl)(hp:p.pts.length<=4096):0<=qf p/\qf p<=17596481011712:=by
 have h:=zbB (qP p) ((qP p).length-1);have h1:=yr (zL p);have h2:=um p;rw[←zbA]at h1;unfold qf;omega
variable{p:Pl}
def zp0(h:1<=qf p):2<=(qP p).length:=by
 refine QJ λk=>?_
 have:=zpz (p:=p) oM;omega
def zg3{q:Nat×Nat}(hp:p.pts.length<=4096)(h:q∈qt pen (qf p)):0<(yF p q).pts.length/\(yF p q).pts.length<=4100:=by
 obtain⟨_,_,h1⟩:=zhO q h;have h2:=zp0 h1;have ll:=yr (zL p);have dl:=um p;rw[←zbA]at ll;unfold yF
 split
 ·rename_i k
  have:(zL p).pts.length≠0:=λe=>by
   have:=za3 (q:=zL p) oM;rw[←zbA]at this;omega
  omega
 have:=zBJ (qP p) q.1 q.2;dsimp only;omega
def zp1(a b:LY):yo (a++b)=yo a+yo b:=by unfold yo;simp
def zik:∀{l:LY},(∀x∈l,0<x.pts.length)->l.length<=yo l
 |[],_=>Xg _
 |x::r,h=>by
  have h1:=h x (.head _);have h2:=zik (l:=r) λy hy=>h y (.tail _ hy)
  have e:yo (x::r)=x.pts.length+yo r:=by unfold yo;simp
  rw[e,Xq];omega
def ze3(p:Pl)(pen:Pen)(j:Nat):Nat:=yo (((qt pen (qf p)).take j).map (yF p))
def zvS{j:Nat}{y:Nat×Nat}(h:(qt pen (qf p))[j]?=some y):ze3 p pen (j+1)=ze3 p pen j+(yF p y).pts.length:=by
 unfold ze3;rw[Xm,h,XG,zp1];show _+yo [yF p y]=_;unfold yo;simp
def zBM(p:Pl)(pen:Pen)(j:Nat):ze3 p pen j<=yo ((qt pen (qf p)).map (yF p)):=by
 have e:(qt pen (qf p)).map (yF p)=((qt pen (qf p)).take j).map (yF p)++((qt pen (qf p)).drop j).map (yF p):=by
  rw[←XG,KG]
 rw[e,zp1];exact JC _ _
def zBN{p:Pl}{pen:Pen}(hp:p.pts.length<=4096)(j:Nat):((qt pen (qf p)).take j).length<=ze3 p pen j:=by
 have:=zik (l:=((qt pen (qf p)).take j).map (yF p)) λx hx=>by
  obtain⟨q,hq,rfl⟩:=XL.1 hx;exact(zg3 hp (XQ hq)).1
 rwa [Xz]at this
def dM(p:Pl)(pen:Pen)(j:Nat):LT:=
 [(0,.box 204 [.sl ptE p.pts,pr (p.cl=true)]),(1,.box 197 [nS]),(2,.box 67 [i64 0]),(3,.box 276 (meE (meQ (zL p)))),
  (4,.box 197 [.own 6]),(5,.box 3 [i64 (ze3 p pen j:Int)]),(6,.arr 204 pwE 2 (((qt pen (qf p)).take j).map (zmd p)))]
def dB(p:Pl):LT:=
 [(0,.box 204 [.sl ptE p.pts,pr (p.cl=true)]),(1,.box 197 [nS]),(2,.box 67 [i64 0]),(3,.box 276 (meE (meQ (zL p)))),
  (4,.box 197 [.sl ptE (List.replicate 9223372036854775808 zp)]),(5,.box 3 [i64 4097])]
def dS(p:Pl)(pen:Pen)(j:Nat):LT:=if ze3 p pen j<=4096 then dM p pen j else dB p
def ztR{S Pm:LG}{ρ:ze}{w:World}{v:Value}:¬G S Pm ρ w (.sl ptE (List.replicate 9223372036854775808 zp)) v:=λhg=>by
 have key:∀{xs:LR} {u:Value},D S w (.sl ptE xs) u->xs.length<=9223372036854775807:=λhd=>by
  cases hd with
  |nil=>decide
  |sl _ _ sz b o cap c hb hS hlen=>exact hlen
 have:=key hg.sl_inv;rw[Kj]at this;omega
def zBO{a s:SV}:LE (.tup [.sl ptE (List.replicate 9223372036854775808 zp),a]) s:=λS Pm ρ w v hg=>by
 cases hg with
 |d _ _ hd=>cases hd
 |tup cs vs hl h=>
  obtain⟨u,hu⟩:∃u,vs[0]?=some u:=⟨_,Xa (by rw[hl];exact Nat.succ_pos 1)⟩;exact absurd (h 0 _ u rfl hu) ztR
def dS_pf(p:Pl)(pen:Pen)(j:Nat):zjO (dS p pen j):=by
 unfold dS
 split
 ·intro k m hm;unfold dM at hm;simp only[XD,XR,or_false,KL]at hm
  obtain⟨_,rfl⟩|⟨_,rfl⟩|⟨_,rfl⟩|⟨_,rfl⟩|⟨_,rfl⟩|⟨_,rfl⟩|⟨_,rfl⟩:=hm
  all_goals first|rfl|trivial
 intro k m hm;unfold dB at hm;simp only[XD,XR,or_false,KL]at hm
 obtain⟨_,rfl⟩|⟨_,rfl⟩|⟨_,rfl⟩|⟨_,rfl⟩|⟨_,rfl⟩|⟨_,rfl⟩:=hm
 all_goals first|rfl|trivial
def zy7(p:Pl)(pen:Pen)(hp:p.pts.length<=4096):CX 190 [.agg (plE p),ws pen] (zvH (jV p pen)):=by
 refine uz 3 tok mix func190 rfl rfl rfl ?_
 have es:jV p pen=if¬kV pen then([],13) else if¬∀q∈p.pts,zm q then([],6) else if 4096<p.pts.length then([],5)
  else if pen.d=[] then([zL p],0) else if 4096<yo ((qt pen (qf p)).map (yF p)) then([],5) else((qt pen (qf p)).map (yF p),0):=rfl
 refine wg (zdV pen)<|⟨λk=>?_,λk=>?_⟩
 ·have k:¬kV pen:=k;exact yC (by rw[es,Xe k])
 have k:kV pen:=Xc.1 k;rw[kD k]at es
 by_cases ok:∀q∈p.pts,zm q
 rotate_left
 ·refine wg (zl9 p hp)<|⟨λ_=>?_,λh=>absurd (Xc.1 h) ok⟩;exact yC (by rw[es,Xe ok])
 rw[kD ok,Xb (show¬4096<p.pts.length by omega)]at es;have hM:=zl9 p hp;rw[zBI ok]at hM;refine wg hM<|Br.mk (λh=>absurd ok h) (λ_=>?_);intro hl1;refine⟨λh=>absurd (show(4096:Int)<p.pts.length from h) oM,λ_=>?_⟩;intro hl2;refine⟨λz:(pen.d.length:Int)=0=>?_,λz:¬(pen.d.length:Int)=0=>?_⟩
 ·have z:pen.d=[]:=Xo oM;refine wg (zf5 p hp)<|⟨Pl,plE,[zL p],rfl,wb0 ?_⟩;rw[es,Xe z];exact .refl
 rw[Xb (λh=>z (by rw[h];rfl))]at es;have lr:=zr7 p hp;refine wg (p_on pen (qf p))<|⟨Nat×Nat,runE,qt pen (qf p),6,[(2,.loc 0 0),(4,.loc 1 0),(5,.loc 2 0),(6,.loc 3 0),(8,.loc 4 0),(9,.loc 5 0)],dS p pen,λ_=>7,zBH pen (qf p) oM,λ_=>rfl,⟨rfl,rfl,rfl,rfl⟩,?_,⟨Xg _,rfl⟩,dS_pf p pen,?_,?_⟩
 ·rw[show dS p pen 0=dM p pen 0 from Xe (Xg _)];exact zA [(0,some 0),(1,some 2),(2,some 3),(3,some 4),(4,some 5),(5,some 6),(6,none)]
 ·intro j y hy _;have hm:=Xf hy;obtain⟨y1,y2,y3⟩:=zhO y hm;have cs:=zvS hy;have cle:=zBM p pen (j+1);have dp:=zg3 hp hm;have bad:4096<ze3 p pen (j+1)->jV p pen=([],5):=λh=>by rw[es,Xe oM]
  have dl:=um p;have ll:=yr (zL p);rw[←zbA]at ll;have l2:=zp0 y3;have w1:p.cl=true->(y.1:Int)=0->(y.2:Int)=qf p->zmd p y=.d (zL p)/\(yF p y).pts=(zL p).pts:=λa b c=>⟨Xe ⟨a,oM,c⟩,Xj Pl.pts (Xe ⟨a,oM,c⟩)⟩
  have w2:¬(p.cl=true/\(y.1:Int)=0/\(y.2:Int)=qf p)->zmd p y=.c (zed (qP p) y.1 y.2)/\(yF p y).pts=zed (qP p) y.1 y.2:=λh=>
   ⟨Xb λk=>h ⟨k.1,oM,k.2.2⟩,Xj Pl.pts (Xb λk=>h ⟨k.1,oM,k.2.2⟩)⟩
  by_cases hc:ze3 p pen j<=4096
  ·rw[show dS p pen j=dM p pen j from Xe hc];have cg:=zBN (pen:=pen) hp j;refine⟨λc=>Br.mk (λc1=>Br.mk (λc2=>?_) (λc2=>?_)) (λc1=>?_),λc=>?_⟩
   ·obtain⟨e1,e2⟩:=w1 c c1 c2;rw[e2]at cs dp;refine wg (zf5 p hp) λhl3=>wa<|Br.mk (λo=>?_) (λo=>?_)
    ·have o:(4096:Int)<(ze3 p pen j:Int)+((zL p).pts.length:Int):=o;refine⟨[(1,.box 197 [nS]),(2,.box 67 [i64 5])],6,zi [0,1,2,3,4,5],λk m hm=>?_,yC (bad oM)⟩;simp only[XD,XR,or_false,KL]at hm
     obtain⟨_,rfl⟩|⟨_,rfl⟩:=hm <;> rfl
    have o:¬(4096:Int)<(ze3 p pen j:Int)+((zL p).pts.length:Int):=o;refine⟨Pw,pwE,[.d (zL p)],rfl,wb3 ?_⟩;refine⟨[.d (zL p)],rfl,wb21 ?_⟩;rw[show dS p pen (j+1)=dM p pen (j+1) from Xe oM];refine zt [0,1,2,3,4,5,9] ⟨rfl,rfl,rfl,rfl,rfl,Xj (λn=>some (Mem.box 3 [i64 n])) oM,aR ?_,tV⟩;rw[Xm,hy,XG,←e1];rfl
   all_goals
    have hno:¬(p.cl=true/\(y.1:Int)=0/\(y.2:Int)=qf p):=by
     first
     |exact λh=>c2 h.2.2
     |exact λh=>c1 h.2.1
     |exact λh=>c h.1
    obtain⟨e1,e2⟩:=w2 hno;rw[e2]at cs dp;have hcut:CX 268 [.agg (meE (meQ (zL p))),i64 (y.1:Int),i64 (y.2:Int)] (.sl ptE (zed (qP p) y.1 y.2)):=zDn (zL p) y.1 y.2 oM l2 ⟨oM,oM⟩ ⟨oM,oM⟩;refine wg hcut λhl3=>wa<|Br.mk (λo=>?_) (λo=>?_)
    ·have o:(4096:Int)<(ze3 p pen j:Int)+((zed (qP p) y.1 y.2).length:Int):=o;refine⟨[(1,.box 197 [nS]),(2,.box 67 [i64 5])],6,zi [0,1,2,3,4,5],λk m hm=>?_,yC (bad oM)⟩;simp only[XD,XR,or_false,KL]at hm
     obtain⟨_,rfl⟩|⟨_,rfl⟩:=hm <;> rfl
    have o:¬(4096:Int)<(ze3 p pen j:Int)+((zed (qP p) y.1 y.2).length:Int):=o;refine⟨Pw,pwE,[.c (zed (qP p) y.1 y.2)],rfl,wb3 ?_⟩;refine⟨[.c (zed (qP p) y.1 y.2)],rfl,wb21 ?_⟩;rw[show dS p pen (j+1)=dM p pen (j+1) from Xe oM];refine zt [0,1,2,3,4,5,9] ⟨rfl,rfl,rfl,rfl,rfl,Xj (λn=>some (Mem.box 3 [i64 n])) oM,aR ?_,tV⟩;rw[Xm,hy,XG,←e1];rfl
  rw[show dS p pen j=dB p from Xb hc];refine⟨λc=>Br.mk (λc1=>Br.mk (λc2=>?_) (λc2=>?_)) (λc1=>?_),λc=>?_⟩
  ·obtain⟨e1,e2⟩:=w1 c c1 c2;rw[e2]at cs dp;refine wg (zf5 p hp) λhl3=>wa<|Br.mk (λo=>?_) (λo=>absurd (show(4096:Int)<4097+((zL p).pts.length:Int) by omega) o);refine⟨[(1,.box 197 [nS]),(2,.box 67 [i64 5])],6,zi [0,1,2,3,4,5],λk m hm=>?_,yC (bad oM)⟩;simp only[XD,XR,or_false,KL]at hm
   obtain⟨_,rfl⟩|⟨_,rfl⟩:=hm <;> rfl
  all_goals
   have hno:¬(p.cl=true/\(y.1:Int)=0/\(y.2:Int)=qf p):=by
    first
    |exact λh=>c2 h.2.2
    |exact λh=>c1 h.2.1
    |exact λh=>c h.1
   obtain⟨e1,e2⟩:=w2 hno;rw[e2]at cs dp;have hcut:CX 268 [.agg (meE (meQ (zL p))),i64 (y.1:Int),i64 (y.2:Int)] (.sl ptE (zed (qP p) y.1 y.2)):=zDn (zL p) y.1 y.2 oM l2 ⟨oM,oM⟩ ⟨oM,oM⟩;refine wg hcut λhl3=>wa<|Br.mk (λo=>?_) (λo=>absurd (show(4096:Int)<4097+((zed (qP p) y.1 y.2).length:Int) by omega) o);refine⟨[(1,.box 197 [nS]),(2,.box 67 [i64 5])],6,zi [0,1,2,3,4,5],λk m hm=>?_,yC (bad oM)⟩;simp only[XD,XR,or_false,KL]at hm
   obtain⟨_,rfl⟩|⟨_,rfl⟩:=hm <;> rfl
 intro _
 by_cases hc:ze3 p pen (qt pen (qf p)).length<=4096
 ·rw[show dS p pen (qt pen (qf p)).length=dM p pen (qt pen (qf p)).length from Xe hc];have et:(qt pen (qf p)).take (qt pen (qf p)).length=qt pen (qf p):=Kf;unfold ze3 at hc;rw[et]at hc;rw[es,Xb oM];refine zW ((LE_pw _).trans (kM ?_)) .refl;rw[zvR,et]
 rw[show dS p pen (qt pen (qf p)).length=dB p from Xb hc];exact zBO
def jB:LY->Pen->LY×Int
 |[],_=>([],0)
 |p::r,pen=>if (jV p pen).2≠0 then([],(jV p pen).2)
  else if (jB r pen).2≠0 then([],(jB r pen).2) else((jV p pen).1++(jB r pen).1,0)
def znO(l:LY)(pen:Pen):LY:=l.flatMap λp=>(jV p pen).1
variable{i:Nat}
def zvT{l:LY}{x:Pl}(h:l[i]?=some x):znO (l.take (i+1)) pen=znO (l.take i) pen++(jV x pen).1:=by
 unfold znO;rw[Xm,h,Qw];simp
def zp2{pen:Pen}:∀{l:LY},(∀p∈l,(jV p pen).2=0)->jB l pen=(znO l pen,0)
 |[],_=>rfl
 |p::r,h=>by
  have ih:=zp2 λq hq=>h q (.tail _ hq)
  unfold jB;rw[qV (h p (.head _)),ih];rfl
def zme{pen:Pen}:∀{l:LY} {i:Nat} {x:Pl},l[i]?=some x->(∀p∈l.take i,(jV p pen).2=0)->¬(jV x pen).2=0->jB l pen=([],(jV x pen).2)
 |p::r,0,x,h,_,hx=>by
  cases h
  unfold jB;rw[Xe hx]
 |p::r,i+1,x,h,ha,hx=>by
  have ih:=zme (l:=r) (i:=i) h (λq hq=>ha q (by rw[Ko];exact .tail _ hq)) hx;unfold jB;rw[qV (ha p (by rw[Ko];exact .head _)),ih];exact Xe hx
def zj1:∀{l:LY} {q:Pl},q∈l->q.pts.length<=yo l
 |x::r,q,h=>by
  have e:yo (x::r)=x.pts.length+yo r:=by unfold yo;simp
  rw[e]
  cases h with
  |head=>omega
  |tail _ h=>have:=zj1 h;omega
def zdm{p:Pl}{pen:Pen}(hp:p.pts.length<=4096):(jV p pen).1.length<=4096/\∀q∈(jV p pen).1,q.pts.length<=4096:=by
 unfold jV
 split
 ·exact⟨Xg _,λq hq=>by cases hq⟩
 split
 ·exact⟨Xg _,λq hq=>by cases hq⟩
 split
 ·exact⟨Xg _,λq hq=>by cases hq⟩
 split
 ·refine⟨by show 1<=4096;decide,λq hq=>?_⟩;rw[Xu.1 hq];have:=um p;omega
 split
 ·exact⟨Xg _,λq hq=>by cases hq⟩
 rename_i h
 have hg:=zik (l:=(qt pen (qf p)).map (yF p)) λx hx=>by
  obtain⟨q,hq,rfl⟩:=XL.1 hx;exact(zg3 hp hq).1
 refine⟨oN,λq hq=>?_⟩;have hq:q∈(qt pen (qf p)).map (yF p):=hq;have:=zj1 hq;omega
def zj2{pen:Pen}:∀{l:LY},(∀p∈l,p.pts.length<=4096)->(znO l pen).length<=4096*l.length/\∀q∈znO l pen,q.pts.length<=4096
 |[],_=>⟨Xi 0,λq hq=>by cases hq⟩
 |p::r,hl=>by
  obtain⟨i1,i2⟩:=zj2 (pen:=pen) (l:=r) λq hq=>hl q (.tail _ hq)
  obtain⟨f1,f2⟩:=zdm (pen:=pen) (hl p (.head _));have e:znO (p::r) pen=(jV p pen).1++znO r pen:=rfl;rw[e,Xp,Xq];refine⟨oM,λq hq=>?_⟩
  rcases Xr.1 hq with hq|hq
  ·exact f2 q hq
  exact i2 q hq
def zER(l:LY)(pen:Pen)(hl:l.length<=4096)(hp:∀q∈l,q.pts.length<=4096):CX 191 [.sl plE l,ws pen] (zvH (jB l pen)):=by
 refine zd func191 λhl1=>?_;refine⟨Nat,λi=>⟨[(3,.loc 0 0),(6,.own 1),(11,.sl plE l),(12,i64 l.length),(13,i64 i)],[(0,.box 63 (yK pen)),(1,.arr 204 plE 2 (znO (l.take i) pen))],2,31,0⟩,λi=>i<=l.length/\∀q∈l.take i,(jV q pen).2=0,λi=>l.length-i,0,?_,?_,?_⟩
 ·exact⟨Xg _,λq hq=>by cases hq⟩
 ·exact zA [(0,some 0),(1,none)]
 rintro i ⟨h1,h2⟩
 obtain⟨f1,_⟩:=zj2 (pen:=pen) (l:=l.take i) λq hq=>hp q (XQ hq)
 rw[Xv]at f1;refine⟨λg:(i:Int)<l.length=>?_,λg:¬(i:Int)<l.length=>?_⟩
 ·refine wb λx(hx:l[i]?=some x)=>?_;have hpx:=hp x (Xf hx);refine wg (zy7 x pen hpx)<|⟨λz=>?_,λz=>?_⟩
  ·have z:¬(jV x pen).2=0:=z;exact yC (zme hx h2 z)
  have z:(jV x pen).2=0:=Xc.1 z;obtain⟨s1,s2⟩:=zdm (pen:=pen) hpx;refine⟨(jV x pen).1,rfl,Ob.mk ⟨(by show _*(32:Int)<=_;omega),oM,dC,λ_ _=>rfl⟩ ?_⟩;exact wa<|⟨i+1,⟨oM,zpT hx h2 z⟩,zt [0,3] ⟨rfl,aR (zvT hx).symm,tV⟩,oN⟩
 have et:l.take i=l:=Xk oM;rw[et]at h2;rw[zp2 h2];exact zW (kM (by rw[et])) .refl
def zvV{l:LW}{tol:Int}(h:¬(kv l tol).2=0):(kv l tol).1=[]:=by
 unfold kv at h ⊢
 split at h <;> rename_i k1
 ·rw[Xe k1]
 rw[Xb k1]
 split at h <;> rename_i k2
 ·rw[Xe k2]
 rw[Xb k2]
 split at h <;> rename_i k3
 ·rw[Xe k3]
 rw[Xb k3]
 split at h <;> rename_i k4
 ·rw[Xe k4]
 exact absurd rfl h
def zhP(l:LW)(tol:Int):(kv l tol).1.length<=4096/\∀q∈(kv l tol).1,q.pts.length<=4096:=by
 by_cases h:(kv l tol).2=0
 ·have hv:kX l:=by
   refine Xc.1 λk=>?_
   unfold kv at h;rw[Xe k]at h;exact absurd h dC
  obtain⟨_,_,f3,f4⟩:=zhJ (lo:=⟨-1048576,-1048576⟩) (hi:=⟨1048576,1048576⟩) h (λp hp=>zjK hv p hp);have hg:=zik (l:=(kv l tol).1) λx hx=>Kl λe=>(f4 x hx).1 (Xo e)
  exact⟨oM,λq hq=>by have:=zj1 hq;omega⟩
 rw[zvV h];exact⟨Xg _,λq hq=>by cases hq⟩
def zBQ(l:LW)(t:AF)(tol:Int)(ht:t.le 100000)(hl:l.length<=300):CX 130 [.sl sgE l,wo t,i64 tol] (rgE (yG l t tol)):=by
 refine zmf 2 1 tok mix func130 rfl rfl rfl func186 rfl rfl<|⟨_,_,rfl,?_⟩;refine⟨_,_,_,_,_,rfl,rfl,rfl,rfl,?_⟩;refine⟨_,rfl,rfl,rfl,?_⟩;refine wg (zBj l t ht hl) ?_;have fs:=zhP (trans t l).1 tol;refine⟨λe1:¬(trans t l).2=0=>?_,λe1=>?_⟩
 ·refine⟨_,.refl,rfl,?_⟩;refine⟨λ_=>?_,λh=>absurd e1 h⟩;exact yq (by unfold yG;rw[Xe e1])
 have e1:(trans t l).2=0:=Xc.1 e1;refine wg (zyM (trans t l).1 tol)<|wd<|wg (zyo (kv (trans t l).1 tol).1 fs.1 fs.2)<|wh<|⟨_,.refl,rfl,?_⟩;refine⟨λe2:¬(kv (trans t l).1 tol).2=0=>?_,λe2=>?_⟩
 ·exact yq (by unfold yG;rw[qV e1,Xe e2])
 have e2:(kv (trans t l).1 tol).2=0:=Xc.1 e2;have e:yG l t tol=(vk (kv (trans t l).1 tol).1,0):=by unfold yG;rw[qV e1,qV e2]
 rw[e];exact zW .refl (zh e2)
def zr8(pen:Pen):(jV ⟨[],false⟩ pen).2=if kV pen then 0 else 13:=by
 have hl:qf ⟨[],false⟩=0:=zpz dC;unfold jV
 by_cases k:kV pen
 ·rw[kD k,Xe k,Xb (show¬¬∀q∈(⟨[],false⟩:Pl).pts,zm q from λh=>h λq hq=>by cases hq),Xb (show¬4096<(⟨[],false⟩:Pl).pts.length by decide),hl]
  split
  ·rfl
  rw[zpW (.inr dC)];rfl
 rw[Xe k,Xb k]
def zBS(pen:Pen):CX 190 [.agg [nS,.val (.bool false)],ws pen] (zvH (jV ⟨[],false⟩ pen)):=
 (zy7 ⟨[],false⟩ pen (Xg _)).args (.cons (jg (.cons zw (.cons (zc (show¬(false=true) by decide)) .nil))) (.C .nil))
def zbC:∀{l:LN} {r:LR},r∈l->r.length<=qx l
 |x::s,r,h=>by
  rw[zf6]
  cases h with
  |head=>omega
  |tail _ h=>have:=zbC h;omega
def zdn(t:AF):LR->Int
 |[]=>0
 |p::r=>if (kU t p).2≠0 then(kU t p).2 else zdn t r
def zcB(t:AF)(l:LR):LR:=l.map λp=>(kU t p).1
def zee(t:AF):LN->Int
 |[]=>0
 |r::s=>if zdn t r≠0 then zdn t r else zee t s
def vV(rs:LN)(t:AF):LN×Int:=
 if¬kE rs then([],12) else if zee t rs≠0 then([],zee t rs) else(rs.map (zcB t),0)
def znP{t:AF}:∀{l:LR},(∀p∈l,(kU t p).2=0)->zdn t l=0
 |[],_=>rfl
 |p::r,h=>by unfold zdn;rw[qV (h p (.head _))];exact znP λq hq=>h q (.tail _ hq)
def znQ{t:AF}:∀{l:LR} {i:Nat} {x:Pt},l[i]?=some x->(∀p∈l.take i,(kU t p).2=0)->¬(kU t x).2=0->zdn t l=(kU t x).2
 |p::r,0,x,h,_,hx=>by cases h;unfold zdn;rw[Xe hx]
 |p::r,i+1,x,h,ha,hx=>by
  unfold zdn;rw[qV (ha p (by rw[Ko];exact .head _))];exact znQ (l:=r) (i:=i) h (λq hq=>ha q (by rw[Ko];exact .tail _ hq)) hx
def ztT{t:AF}:∀{l:LN},(∀r∈l,zdn t r=0)->zee t l=0
 |[],_=>rfl
 |p::r,h=>by unfold zee;rw[qV (h p (.head _))];exact ztT λq hq=>h q (.tail _ hq)
def znR{t:AF}:∀{l:LN} {i:Nat} {x:LR},l[i]?=some x->(∀r∈l.take i,zdn t r=0)->¬zdn t x=0->zee t l=zdn t x
 |p::r,0,x,h,_,hx=>by cases h;unfold zee;rw[Xe hx]
 |p::r,i+1,x,h,ha,hx=>by
  unfold zee;rw[qV (ha p (by rw[Ko];exact .head _))];exact znR (l:=r) (i:=i) h (λq hq=>ha q (by rw[Ko];exact .tail _ hq)) hx
def zah{α:Type}{P:α->Prop}{l:List α}{x:α}(h:l[i]?=some x)(ha:∀p∈l.take i,P p)(hx:P x):∀p∈l.take (i+1),P p:=by
 intro p hp;rw[Xm,h]at hp
 rcases Xr.1 hp with hp|hp
 ·exact ha p hp
 simp at hp;rw[hp];exact hx
def uP(l:LN):LM:=l.map zE
def zd3(l:LN):(uP l).length=l.length:=by unfold uP;simp
def zgd{tb:List (Nat×Option Nat)}{l m:LN}(e:l=m):
  (uP m).length=(uP l).length/\∀(j:Nat) x,(uP l)[j]?=some x->∃x',(uP m)[j]?=some x'/\ren.rens tb x=some x':=by
 subst e;refine⟨rfl,λj x hx=>⟨x,hx,?_⟩⟩;unfold uP at hx;rw[XA]at hx
 cases hy:l[j]? with
 |none=>rw[hy]at hx;cases hx
 |some y=>rw[hy]at hx;cases hx;rfl
def zp4{L:LN}{q:LR}{a:Nat}:∀(i j:Nat) (x':LQ) (s':SV),(uP (L++[q]))[i]?=some x'->x'[j]?=some s'->∃(x:LQ) (s:SV),(uP L++[[.own a]])[i]?=some x/\x[j]?=some s/\(s'=s∨(s=.own a/\s'=.sl ptE q)):=by
 intro i j x' s' hx hs;have e:uP (L++[q])=uP L++[zE q]:=by unfold uP;rw[XG];rfl
 rw[e]at hx;generalize uP L=R at*
 rcases Qs i R.length with h|h|h
 ·rw[XH h]at hx;exact⟨x',s',by rw[XH h];exact hx,hs,.inl rfl⟩
 ·subst h;rw[QR]at hx
  cases hx
  match j,hs with
  |0,hs=>cases hs;exact⟨[.own a],.own a,QR ..,rfl,.inr ⟨rfl,rfl⟩⟩
  |j+1,hs=>cases hs
 rw[XF (by simp;omega)]at hx;cases hx
def vG(l:List AF):AF:=l.foldl beh idA
def zj3{l:List AF}{x:AF}(h:l[i]?=some x):vG (l.take (i+1))=beh (vG (l.take i)) x:=by
 unfold vG;rw[Xm,h,Qg];rfl
def zr9(l:List AF):Prop:=(∀t∈l,t.ok)/\∀i,i<l.length->(vG (l.take (i+1))).ok
instance (l:List AF):Decidable (zr9 l):=wi
def zaJ(l:List AF):AF×Int:=if zr9 l then(vG l,0) else(qh,5)
def zBT:idA.nrm=idA:=by unfold idA AF.nrm afQ;simp only[kA]
def zp5{l:List AF}:∀{i:Nat},i<=l.length->(∀k,k<i->(vG (l.take (k+1))).ok)->(vG (l.take i)).le 8
 |0,_,_=>zno.up dC
 |i+1,hi,h=>by
  have hk:=h i oM;have hx:l[i]?=some l[i]:=Xa oM;rw[zj3 hx]at hk ⊢;exact zu6 hk
def zvW(l:List AF):(vG l).nrm=vG l:=by
 rcases Yr l with rfl|⟨q,x,rfl⟩
 ·exact zBT
 unfold vG;rw[List.concat_eq_append,Qg];exact znp _ _
def zsa(l:List AF)(hl:∀t∈l,t.le 100):CX 185 [.sl afE l] (.tup [wo (zaJ l).1,i64 (zaJ l).2]):=by
 have bad:¬zr9 l->LE (.tup [.agg uM,i64 5]) (.tup [wo (zaJ l).1,i64 (zaJ l).2]):=λh=>by
  rw[show zaJ l=(qh,5) from Xb h];exact zW zdU .refl
 refine zd func185<|wg zrz λhl0=>?_
 refine⟨Nat,λi=>⟨[(12,i64 i),(11,i64 l.length),(10,.sl afE l),(4,.loc 1 0),(2,.loc 0 0),(0,.sl afE l)],[(1,.box 49 (afE idA)),(0,.box 49 uM)],2,37,0⟩,
  λi=>i<=l.length/\∀t∈l.take i,t.ok,λi=>l.length-i,0,⟨Xg _,λt ht=>by cases ht⟩,zi [0,1],?_⟩
 rintro i ⟨h1,h2⟩
 refine⟨λg:(i:Int)<l.length=>?_,λg:¬(i:Int)<l.length=>?_⟩
 ·refine wb λx(hx:l[i]?=some x)=>?_;have hm:=Xf hx;refine wg (zfK x ((hl x hm).up dC))<|⟨λh=>bad λk=>h (k.1 x hm),λh=>?_⟩;exact wa<|⟨i+1,⟨oM,zah hx h2 (Xc.1 h)⟩,zi [0,1],oN⟩
 rw[Xk oM]at h2;intro hl1
 refine⟨Nat,λi=>⟨[(23,i64 i),(22,i64 l.length),(21,.sl afE l),(4,.loc 1 0),(2,.loc 0 0)],[(1,.box 49 (afE (vG (l.take i)))),(0,.box 49 uM)],2,37,0⟩,
  λi=>i<=l.length/\∀k,k<i->(vG (l.take (k+1))).ok,λi=>l.length-i,0,⟨Xg _,λk h=>by omega⟩,zi [0,1],?_⟩
 rintro j ⟨j1,j2⟩
 have lj:=zp5 j1 j2;refine⟨λg:(j:Int)<l.length=>?_,λg:¬(j:Int)<l.length=>?_⟩
 ·refine wb λx(hx:l[j]?=some x)=>?_;have hm:=Xf hx;have e:=zj3 hx;refine wg (zxG (vG (l.take j)) x (lj.up dC) ((hl x hm).up dC))<|wg (zfK (beh (vG (l.take j)) x) ((zEd (n:=100) (lj.up dC) (hl x hm)).up dC))<|⟨λh=>bad λk=>h (by rw[←e];exact k.2 j oM),λh=>?_⟩;have h:(beh (vG (l.take j)) x).ok:=Xc.1 h;refine wa ?_
  refine⟨j+1,⟨oM,λk hk=>?_⟩,zt [0,1] ⟨bR afE e.symm,rfl,tV⟩,oN⟩
  by_cases c:k=j
  ·rw[c,e];exact h
  exact j2 k oM
 have et:l.take j=l:=Xk oM;refine wg (zo9 (vG (l.take j)) (lj.up dC)) ?_;rw[zvW];have ef:zaJ l=(vG (l.take j),0):=by rw[et];exact Xe ⟨h2,λk hk=>j2 k oM⟩
 rw[ef];exact zW .refl .refl
structure Nd where
 id:Int
 k:Int
 d:Int
 t:AF
 clip:LW
 cr:Int
 op:Int
 mode:Int
 iso:Bool
 ko:Bool
 path:LW
 rule:Int
 fill:LX
 pen:Pen
 strk:LX
 im:Img
 smp:Int
def ndE(n:Nd):LQ:=
 i64 n.id::i64 n.k::i64 n.d::(afE n.t++(.sl sgE n.clip::i64 n.cr::u8 n.op::i64 n.mode::pr (n.iso=true)::pr (n.ko=true)::.sl sgE n.path::i64 n.rule::.sl qb n.fill::
  (yK n.pen++(.sl qb n.strk::(zj4 n.im++[i64 n.smp])))))
structure Sc where
 w:Int
 h:Int
 bg:Pix
 ns:List Nd
def scE(s:Sc):LQ:=[i64 s.w,i64 s.h,u8 s.bg.r,u8 s.bg.g,u8 s.bg.b,u8 s.bg.a,.sl ndE s.ns]
def zbE(n:Nd):Prop:=n.op=0/\n.mode=0/\n.iso=false/\n.ko=false
instance (n:Nd):Decidable (zbE n):=wi
def jW(p:Pen):Prop:=p.w=0/\p.j=0/\p.c=0/\p.m=0/\p.d=[]/\p.ph=0
instance (p:Pen):Decidable (jW p):=wi
def zcx(n:Nd):Prop:=n.path.length=0/\n.rule=0/\n.fill.length=0/\n.strk.length=0
instance (n:Nd):Decidable (zcx n):=wi
def zbF(n:Nd):Prop:=n.im.w=0/\n.im.h=0/\n.im.px.length=0/\n.smp=0
instance (n:Nd):Decidable (zbF n):=wi
def zaM(r:Int):Prop:=r=1∨r=2
instance (r:Int):Decidable (zaM r):=wj
def un(n:Nd):Prop:=(n.clip.length=0/\n.cr=0)∨(0<n.clip.length/\zaM n.cr)
instance (n:Nd):Decidable (un n):=wj
def zef(n:Nd):Prop:=un n/\(if n.k=1 then(zcx n/\jW n.pen)/\zbF n else if n.k=2 then zbE n/\zbF n else zbE n/\zcx n/\jW n.pen)
instance (n:Nd):Decidable (zef n):=by unfold zef;infer_instance
def yL(n:Nd):Int:=
 if¬kX n.path then 10 else if¬zaM n.rule then 2 else if 1<n.fill.length∨1<n.strk.length then 5 else if 0<n.strk.length/\¬kV n.pen then 13
 else if n.strk.length=0/\¬jW n.pen then 17 else if (¬∀p∈n.fill,yu p)∨¬∀p∈n.strk,yu p then 16 else 0
def jQ(n:Nd):Int:=
 if n.k<1∨3<n.k then 2 else if n.id<1∨1073741824<n.id∨n.d<0∨8<=n.d then 6 else if¬n.t.ok then 5 else if v7 n.t=0 then 9 else if¬kX n.clip then 10
 else if¬zef n then 17 else if n.k=1 then(if¬(1<=n.mode/\n.mode<=13) then 2 else 0) else if n.k=2 then yL n
 else if¬zex n.im then 16 else if n.smp≠1/\n.smp≠2 then 2 else 0
def qE(l:List Nd)(i:Nat)(n:Nd):Prop:=match l[i-1]? with
 |some p=>if i=0 then n.d=0 else(p.k=1/\n.d=p.d+1)∨n.d<=p.d
 |none=>n.d=0
instance (l:List Nd) (i:Nat) (n:Nd):Decidable (qE l i n):=by unfold qE;split <;> infer_instance
def zeg(l:List Nd)(i:Nat)(n:Nd):Int:=
 if jQ n≠0 then jQ n else if n.id∈(l.take i).map Nd.id then 7 else if¬qE l i n then 17 else 0
def jX(ds:LU)(d:Int):Nat->Int
 |0=> -1
 |k+1=>if ds[k]?=some d then k else jX ds d k
def yj(ds:LU)(i:Nat):Int:=jX ds (ds.getD i 0-1) i
def zbG(ds:LU)(d:Int):∀k,-1<=jX ds d k/\jX ds d k<k/\(0<=jX ds d k->ds[(jX ds d k).toNat]?=some d)
 |0=>⟨Qi _,show(-1:Int)<0 by decide,λh=>absurd (show(0:Int)<= -1 from h) dC⟩
 |k+1=>by
  have ih:=zbG ds d k;unfold jX
  split
  ·rename_i h;exact⟨oM,oM,λ_=>by simpa using h⟩
  exact⟨ih.1,oM,ih.2.2⟩
def zmj{ds:LU}{d:Int}:∀{k j:Nat},j<k->ds[j]?=some d->0<=jX ds d k
 |k+1,j,hj,h=>by
  unfold jX
  split
  ·omega
  rename_i hn
  by_cases e:j=k
  ·subst e;exact absurd h hn
  exact zmj oM h
def ze7(ds:LU):Prop:=(∀d,ds[0]?=some d->d=0)/\(∀d∈ds,0<=d)/\∀i a b,ds[i]?=some a->ds[i+1]?=some b->b<=a+1
def zmk{ds:LU}(h:ze7 ds){e:Int}(he:0<=e):∀{i:Nat} {d:Int},ds[i]?=some d->e<d->∃j,j<i/\ds[j]?=some e
 |0,d,hd,hl=>by have:=h.1 d hd;omega
 |i+1,d,hd,hl=>by
  obtain⟨a,ha⟩:∃a,ds[i]?=some a:=⟨_,Xa (by have:=(Xd.1 hd).1;omega)⟩;have hs:=h.2.2 i a d ha hd
  by_cases c:a=e
  ·exact⟨i,oM,by rw[ha,c]⟩
  obtain⟨j,h1,h2⟩:=zmk h he ha oM;exact⟨j,oM,h2⟩
def zj8{ds:LU}(h:ze7 ds){d:Int}(hd:ds[i]?=some d):(d=0->yj ds i= -1)/\(0<d->∃j:Nat,yj ds i=j/\j<i/\ds[j]?=some (d-1)):=by
 have hg:ds.getD i 0=d:=by rw[Xn,hd];rfl
 unfold yj;rw[hg];obtain⟨h1,h2,h3⟩:=zbG ds (d-1) i;refine⟨λe=>?_,λhp=>?_⟩
 ·subst e;refine JJ (YH.1 λk=>?_) h1;have:=h.2.1 _ (Xf (h3 oM));omega
 obtain⟨j,hj,hjd⟩:=zmk h (show 0<=d-1 by omega) hd oM;have:=zmj hj hjd;exact⟨(jX ds (d-1) i).toNat,oM,oM,h3 this⟩
def ze8(ds:LU):Nat->Int->LB
 |0,_=>[]
 |n+1,i=>if i<0 then[] else i.toNat::ze8 ds n (yj ds i.toNat)
def zzg(n:Int):CX 215 [i64 n] (pr (zaM n)):=by
 refine zd func215<|Br.mk (λh=>?_) (λh=>?_)
 ·exact zI (.inl h)
 exact zr ⟨.inr,λk=>k.resolve_left h⟩
def zzh(xs ys:LU):CX 355 [.sl zN xs,.sl zN ys] (pr (xs=ys)):=by
 refine zd func355 λhl1 hl2=>?_;refine⟨λh1=>zc λe=>h1 (by rw[e]),λh1=>?_⟩;have h1:=Xc.1 h1;intro hl3;refine⟨Int,λi=>⟨[(13,i64 i),(12,i64 xs.length),(0,.sl zN xs),(1,.sl zN ys)],[],0,26,0⟩,λi=>0<=i/\i<=xs.length/\∀j:Nat,(j:Int)<i->xs[j]?=ys[j]?,λi=>((xs.length:Int)-i).toNat,0,?_,?_,?_⟩
 ·exact⟨oM,oM,λj hj=>by omega⟩
 ·exact zA []
 rintro i ⟨h4,h5,h6⟩
 refine⟨λh7=>?_,λh7=>?_⟩
 ·refine wc<|wb λx hx=>wb λy hy=>?_;refine⟨λh8=>?_,λh8=>?_⟩
  ·refine zc λe=>h8 ?_
   subst e;rw[hx]at hy;exact Xl hy
  refine wa<|⟨i+1,⟨oM,oM,λj hj=>?_⟩,zA [],oN⟩
  by_cases e:j=i.toNat
  ·subst e;rw[hx,hy,Xc.1 h8]
  exact h6 j oM
 exact zI (Kv λj=>by
  by_cases hj:(j:Int)<i
  ·exact h6 j hj
  rw[XF oM,XF oM])
def zPen:Pen:=⟨0,0,0,0,[],0⟩
def zB2:LE (.agg [i64 0,i64 0,i64 0,i64 0,nS,i64 0]) (ws zPen):=jg (.C (.C (.C (.C (.cons zw (.C .nil))))))
def zImg:Img:=⟨0,0,[]⟩
def zB3:LE (.agg [i64 0,i64 0,nS]) (.agg (zj4 zImg)):=jg (.C (.C (.cons zw .nil)))
def zim(a b:Pen):Prop:=a.w=b.w/\a.j=b.j/\a.c=b.c/\a.m=b.m/\a.ph=b.ph/\a.d=b.d
instance (a b:Pen):Decidable (zim a b):=wi
def zv1{p:Pen}:zim p zPen↔jW p:=by
 unfold zim jW zPen;constructor
 ·rintro⟨h1,h2,h3,h4,h5,h6⟩;exact⟨h1,h2,h3,h4,h6,h5⟩
 rintro⟨h1,h2,h3,h4,h5,h6⟩;exact⟨h1,h2,h3,h4,h6,h5⟩
def zv2(a b:Pen):CX 290 [ws a,ws b] (pr (zim a b)):=by
 refine zd func290<|Br.mk (λh1=>?_) (λh1=>zc λk=>h1 k.1);refine⟨λh2=>?_,λh2=>zc λk=>h2 k.2.1⟩;refine⟨λh3=>?_,λh3=>zc λk=>h3 k.2.2.1⟩;refine⟨λh4=>?_,λh4=>zc λk=>h4 k.2.2.2.1⟩;refine⟨λh5=>?_,λh5=>zc λk=>h5 k.2.2.2.2.1⟩;exact wg (zzh a.d b.d)<|zr ⟨λh=>⟨h1,h2,h3,h4,h5,h⟩,λk=>k.2.2.2.2.2⟩
def ztW(a:Pen):CX 290 [ws a,.agg [i64 0,i64 0,i64 0,i64 0,nS,i64 0]] (pr (jW a)):=
 ((zv2 a zPen).args (.C (.cons zB2 .nil))).le (zr zv1)
def zEY(t:AF)(ht:t.le 10000000):CX 219 [wo t] (pr (v7 t=0)):=by
 refine zd func219 ?_;refine wg (zjr t ht) ?_;refine wg (j7 0 (by constructor <;> decide)) ?_;have hcmp:=zhB (ofQ (v7 t)) (ofQ ((0:Int):Rat)) (by have:=zgg ht;rw[zO];omega) (by decide +kernel);rw[kA,kA]at hcmp;refine wg hcmp ?_;exact zr (Yp.1 (yX _))
def yM(l:LX):Prop:=∀p∈l,yu p
instance (l:LX):Decidable (yM l):=inferInstanceAs (Decidable (∀p∈l,_))
def zez(l:LX):Prop:=∀p∈l,p.t.le 1000/\p.im.px.length<=9223372036854775807
def zsf(l:LX):Int:=match l.findIdx? (λp=>¬yu p) with|some i=>i|none=> -1
def zB4{l:LX}{i:Nat}{x:Pnt}(h:∀(j:Nat) q,j<i->l[j]?=some q->yu q)(hx:l[i]?=some x)(hb:¬yu x):zsf l=i:=by
 have:l.findIdx? (λp=>¬yu p)=some i:=by
  rw[KP];have hi:=(Xd.1 hx);refine⟨hi.1,by rw[hi.2];simpa using hb,λj hj=>?_⟩;have:=h j _ hj (Xa (by have:=hi.1;omega))
  simpa using this
 unfold zsf;rw[this]
variable{l:LX}
def zml(h:∀p∈l,yu p):zsf l= -1:=by
 have:l.findIdx? (λp=>¬yu p)=none:=by
  rw[KA];intro p hp;simpa using h p hp
 unfold zsf;rw[this]
def zp8:0<=zsf l↔¬yM l:=by
 by_cases h:yM l
 ·rw[zml h];exact⟨λk=>by omega,λk=>absurd h k⟩
 refine⟨λ_=>h,λ_=>?_⟩;unfold zsf
 cases hf:l.findIdx? (λp=>¬yu p) with
 |some i=>exact Int.natCast_nonneg i
 |none=>rw[KA]at hf;exact absurd (λp hp=>by simpa using hf p hp) h
def zEZ(p:Pnt)(hp:p.t.le 1000)(hl:p.im.px.length<=9223372036854775807):CX 358 [ww p] (pr (¬yu p)):=by
 exact zd func358<|wg (zse p hp hl)<|zr Qd
def zB5(xs:LX)(ht:zez xs):CX 408 [.sl qb xs,.fn 358 []] (i64 (zsf xs)):=by
 refine zd func408 λhl0=>?_;refine⟨Int,λi=>⟨[(8,i64 i),(7,i64 xs.length),(0,.sl qb xs),(1,.fn 358 [])],[],0,19,0⟩,λi=>0<=i/\i<=xs.length/\∀(j:Nat) q,(j:Int)<i->xs[j]?=some q->yu q,λi=>((xs.length:Int)-i).toNat,0,?_,?_,?_⟩
 ·exact⟨oM,oM,λj q hj=>by omega⟩
 ·exact zA []
 rintro i ⟨h1,h2,h3⟩
 refine⟨λh4=>?_,λh4=>?_⟩
 ·refine wb λx hx=>?_;have hm:=ht x (Xf hx);refine wg (zEZ x hm.1 hm.2)<|⟨λh5=>?_,λh5=>?_⟩
  ·refine zh ?_;rw[zB4 (i:=i.toNat) (λj q hj=>h3 j q oM) hx h5];omega
  refine wa<|⟨i+1,⟨oM,oM,λj q hj hq=>?_⟩,zA [],oN⟩
  by_cases e:j=i.toNat
  ·subst e;rw[hx]at hq;cases hq;exact Xc.1 h5
  exact h3 j q oM hq
 refine zh (zml λp hp=>?_).symm;obtain⟨j,hj,he⟩:=Kn hp;exact h3 j p oM (by rw[←he];exact Xa hj)
def zsg(xs:LX)(ht:zez xs):CX 357 [.sl qb xs,.fn 358 []] (pr (¬yM xs)):=by
 exact zd func357<|wg (zB5 xs ht)<|zr zp8
def zDv(xs:LX)(ht:zez xs):CX 292 [.sl qb xs] (pr (yM xs)):=by
 exact zd func292<|wg (zsg xs ht)<|zr Xc
def uR(n:Nd):Prop:=if n.k=1 then(zcx n/\jW n.pen)/\zbF n else if n.k=2 then zbE n/\zbF n else zbE n/\zcx n/\jW n.pen
instance (n:Nd):Decidable (uR n):=by unfold uR;infer_instance
def znV{n:Nd}:zbF n↔n.im=zImg/\n.smp=0:=by
 unfold zbF zImg
 obtain⟨id,k,d,t,clip,cr,op,mode,iso,ko,path,rule,fill,pen,strk,⟨w,h,px⟩,smp⟩:=n
 simp only[Img.mk.injEq,XN];constructor
 ·rintro⟨h1,h2,h3,h4⟩;exact⟨⟨h1,h2,h3⟩,h4⟩
 rintro⟨⟨h1,h2,h3⟩,h4⟩;exact⟨h1,h2,h3,h4⟩
def zE0(n:Nd):CX 221 [.agg (ndE n)] (pr (uR n)):=by
 refine zau tok func221 rfl rfl rfl (zaS.cut tok mix 2 (λ_:Unit=>⟨[(3,pr (zbE n)),(1,.loc 0 0)],[(0,.box 65 (ndE n))],1,78,0⟩) (λ_=>True) ?_ λ_ _=>
  zaS.cut tok mix 1 (λ_:Unit=>⟨[(4,pr (zcx n/\jW n.pen)),(3,pr (zbE n)),(1,.loc 0 0)],[(0,.box 65 (ndE n))],1,78,0⟩) (λ_=>True) ?_ λ_ _=>
  zaS.cut tok mix 1 (λ_:Unit=>⟨[(5,pr (zbF n)),(4,pr (zcx n/\jW n.pen)),(3,pr (zbE n)),(1,.loc 0 0)],[(0,.box 65 (ndE n))],1,78,0⟩) (λ_=>True) ?_ λ_ _=>zaS.vc tok mix ?_)
 ·refine⟨λh1=>?_,λh1=>⟨(),tV,(jj (t:=3) rfl (zc λk=>h1 k.1)).trans (qa [(0,some 0)] rfl rfl rfl ⟨rfl,rfl,tV⟩ ⟨rfl,tV⟩)⟩⟩;refine⟨λh2=>?_,λh2=>⟨(),tV,(jj (t:=3) rfl (zc λk=>h2 k.2.1)).trans (qa [(0,some 0)] rfl rfl rfl ⟨rfl,rfl,tV⟩ ⟨rfl,tV⟩)⟩⟩;refine⟨λh3=>?_,λh3=>⟨(),tV,(jj (t:=3) rfl (zc λk=>h3 (by rw[k.2.2.1];decide))).trans (qa [(0,some 0)] rfl rfl rfl ⟨rfl,rfl,tV⟩ ⟨rfl,tV⟩)⟩⟩
  exact⟨(),tV,(jj (t:=3) rfl (zr ⟨λh=>⟨h1,h2,by simpa using h3,by simpa using h⟩,λk=>by rw[k.2.2.2];decide⟩)).trans (qa [(0,some 0)] rfl rfl rfl ⟨rfl,rfl,tV⟩ ⟨rfl,tV⟩)⟩
 ·intro hl1;refine⟨λh1=>?_,λh1=>⟨(),tV,(jj (t:=4) rfl (zc λk=>h1 (by have:=k.1.1;omega))).trans (qa [(0,some 0)] rfl rfl rfl ⟨rfl,rfl,rfl,tV⟩ ⟨rfl,tV⟩)⟩⟩;refine⟨λh2=>?_,λh2=>⟨(),tV,(jj (t:=4) rfl (zc λk=>h2 k.1.2.1)).trans (qa [(0,some 0)] rfl rfl rfl ⟨rfl,rfl,rfl,tV⟩ ⟨rfl,tV⟩)⟩⟩;intro hl2;refine⟨λh3=>?_,λh3=>⟨(),tV,(jj (t:=4) rfl (zc λk=>h3 (by have:=k.1.2.2.1;omega))).trans (qa [(0,some 0)] rfl rfl rfl ⟨rfl,rfl,rfl,tV⟩ ⟨rfl,tV⟩)⟩⟩
  intro hl3;refine⟨λh4=>?_,λh4=>⟨(),tV,(jj (t:=4) rfl (zc λk=>h4 (by have:=k.1.2.2.2;omega))).trans (qa [(0,some 0)] rfl rfl rfl ⟨rfl,rfl,rfl,tV⟩ ⟨rfl,tV⟩)⟩⟩;exact wg (ztW n.pen)<|⟨(),tV,(jj (t:=4) rfl (zr ⟨λh=>⟨⟨oM,h2,oM,oM⟩,h⟩,λk=>k.2⟩)).trans (qa [(0,some 0)] rfl rfl rfl ⟨rfl,rfl,rfl,tV⟩ ⟨rfl,tV⟩)⟩
 ·refine wg ((zmh n.im zImg).args (.C (.cons zB3 .nil)))<|⟨λh1=>?_,λh1=>⟨(),tV,(jj (t:=5) rfl (zc λk=>h1 (znV.1 k).1)).trans (qa [(0,some 0)] rfl rfl rfl ⟨rfl,rfl,rfl,rfl,tV⟩ ⟨rfl,tV⟩)⟩⟩;exact⟨(),tV,(jj (t:=5) rfl (zr ⟨λh=>znV.2 ⟨h1,h⟩,λk=>(znV.1 k).2⟩)).trans (qa [(0,some 0)] rfl rfl rfl ⟨rfl,rfl,rfl,rfl,tV⟩ ⟨rfl,tV⟩)⟩
 refine⟨λk1=>?_,λk1=>?_⟩
 ·have e:uR n↔(zcx n/\jW n.pen)/\zbF n:=by unfold uR;rw[Xe k1]
  exact⟨λa=>zr ⟨λh=>e.2 ⟨a,h⟩,λk=>(e.1 k).2⟩,λa=>zc λk=>a (e.1 k).1⟩
 refine⟨λk2=>?_,λk2=>?_⟩
 ·have e:uR n↔zbE n/\zbF n:=by unfold uR;rw[Xb k1,Xe k2]
  exact⟨λa=>zr ⟨λh=>e.2 ⟨a,h⟩,λk=>(e.1 k).2⟩,λa=>zc λk=>a (e.1 k).1⟩
 have e:uR n↔zbE n/\zcx n/\jW n.pen:=by unfold uR;rw[Xb k1,Xb k2]
 exact⟨λa=>zr ⟨λh=>e.2 ⟨a,h⟩,λk=>(e.1 k).2⟩,λa=>zc λk=>a (e.1 k).1⟩
def zp9(n:Nd):Prop:=n.k<1∨3<n.k
instance (n:Nd):Decidable (zp9 n):=wj
def zk1(n:Nd):Prop:=n.id<1∨1073741824<n.id∨n.d<0∨8<=n.d
instance (n:Nd):Decidable (zk1 n):=wj
def zcg(n:Nd):Er:=zav [kB (zp9 n) 2,kB (zk1 n) 6,kB (¬n.t.ok) 5,kB (v7 n.t=0) 9,kB (¬kX n.clip) 10,kB (¬un n∨¬uR n) 17]
def zzi(n:Nd)(ht:n.t.le 1000):CX 151 [.agg (ndE n)] (.op (erV (zcg n))):=by
 refine zau tok func151 rfl rfl rfl (zaS.cut tok mix 2 (λ_:Unit=>⟨[(3,pr (un n)),(1,.loc 0 0)],[(0,.box 65 (ndE n))],1,76,0⟩) (λ_=>True) ?_ λ_ _=>zaS.vc tok mix ?_)
 ·intro hl1;refine⟨λh1=>?_,λh1=>?_⟩
  ·refine⟨λh2=>⟨(),tV,(jj (t:=3) rfl (zI (.inl ⟨oM,h2⟩))).trans (qa [(0,some 0)] rfl rfl rfl ⟨rfl,rfl,tV⟩ ⟨rfl,tV⟩)⟩,λh2=>?_⟩;intro hl2;refine⟨λh3=>?_,λh3=>⟨(),tV,(jj (t:=3) rfl (zc λk=>k.elim (λk=>h2 k.2) λk=>by have:=k.1;omega)).trans (qa [(0,some 0)] rfl rfl rfl ⟨rfl,rfl,tV⟩ ⟨rfl,tV⟩)⟩⟩;omega
  intro hl2;refine⟨λh3=>?_,λh3=>?_⟩
  ·exact wg (zzg n.cr)<|⟨(),tV,(jj (t:=3) rfl (zr ⟨λh=>.inr ⟨oM,h⟩,λk=>k.elim (λk=>by have:=k.1;omega) λk=>k.2⟩)).trans (qa [(0,some 0)] rfl rfl rfl ⟨rfl,rfl,tV⟩ ⟨rfl,tV⟩)⟩
  omega
 refine wd<|Br.mk (λa1=>?_) (λa1=>?_)
 all_goals refine wg ((jO (zp9 n) 2).args (.cons (by first|exact zI (.inl a1)|exact zr ⟨.inr,λk=>k.resolve_left a1⟩) LEs.refl)) ?_
 all_goals (refine⟨λb1=>?_,λb1=>?_⟩;rotate_left;refine⟨λb2=>?_,λb2=>?_⟩;rotate_left;refine⟨λb3=>?_,λb3=>?_⟩)
 all_goals refine wg ((jO (zk1 n) 6).args (.cons (by first|exact zI (by unfold zk1;omega)|exact zr (by unfold zk1;constructor <;> intro <;> omega)) LEs.refl)) ?_
 all_goals refine wg (zfK n.t (ht.up dC)) ?_
 all_goals refine wg (jO (¬n.t.ok) 5) ?_
 all_goals refine wg (zEY n.t (ht.up dC)) ?_
 all_goals refine wg (jO (v7 n.t=0) 9) ?_
 all_goals refine wg (zif n.clip) ?_
 all_goals refine wg (jO (¬kX n.clip) 10) ?_
 all_goals refine⟨λc1=>?_,λc1=>?_⟩
 all_goals first
  |refine wg ((jO (¬un n∨¬uR n) 17).args (.cons (zI (.inl c1)) LEs.refl)) ?_
  |(refine wg (zE0 n) ?_;refine wg ((jO (¬un n∨¬uR n) 17).args (.cons (zr ⟨.inr,λk=>k.resolve_left c1⟩) LEs.refl)) ?_)
 all_goals refine⟨Er,zxi,[kB (zp9 n) 2,kB (zk1 n) 6,kB (¬n.t.ok) 5,kB (v7 n.t=0) 9,kB (¬kX n.clip) 10,kB (¬un n∨¬uR n) 17],rfl,wb14 ?_⟩
 all_goals refine zb.see 1 _ (znc [kB (zp9 n) 2,kB (zk1 n) 6,kB (¬n.t.ok) 5,kB (v7 n.t=0) 9,kB (¬kX n.clip) 10,kB (¬un n∨¬uR n) 17]) rfl rfl rfl ?_
 all_goals refine wh ?_
 all_goals exact .refl
def znW(n:Nd):Er:=zav [kB (¬kX n.path) 10,kB (¬zaM n.rule) 2,kB (1<n.fill.length∨1<n.strk.length) 5,kB (0<n.strk.length/\¬kV n.pen) 13,kB (n.strk.length=0/\¬jW n.pen) 17,kB (¬yM n.fill∨¬yM n.strk) 16]
def zB6(n:Nd)(h1:zez n.fill)(h2:zez n.strk):CX 223 [.agg (ndE n)] (.op (erV (znW n))):=by
 refine zd func223 λhl1=>wd<|wg (zif n.path)<|wg (jO (¬kX n.path) 10)<|wg (zzg n.rule)<|wg (jO (¬zaM n.rule) 2) λhl2=>?_;refine⟨λa1=>?_,λa1=>?_⟩;rotate_left;intro hl3
 all_goals refine wg ((jO (1<n.fill.length∨1<n.strk.length) 5).args (.cons (by first|exact zI (.inl oM)|exact zr (by constructor <;> intro <;> omega)) LEs.refl)) ?_
 all_goals refine⟨λb1=>?_,λb1=>?_⟩
 all_goals first
  |(refine wg (zdV n.pen) ?_;refine wg ((jO (0<n.strk.length/\¬kV n.pen) 13).args (.cons (zr ⟨λh=>⟨oM,h⟩,λk=>k.2⟩) LEs.refl)) ?_)
  |refine wg ((jO (0<n.strk.length/\¬kV n.pen) 13).args (.cons (zc oM) LEs.refl)) ?_
 all_goals refine⟨λc1=>?_,λc1=>?_⟩
 all_goals first
  |(refine wg (ztW n.pen) ?_;refine wg ((jO (n.strk.length=0/\¬jW n.pen) 17).args (.cons (zr ⟨λh=>⟨oM,h⟩,λk=>k.2⟩) LEs.refl)) ?_)
  |refine wg ((jO (n.strk.length=0/\¬jW n.pen) 17).args (.cons (zc oM) LEs.refl)) ?_
 all_goals refine wg (zDv n.fill h1) ?_
 all_goals refine⟨λd1=>?_,λd1=>?_⟩
 all_goals first
  |refine wg ((jO (¬yM n.fill∨¬yM n.strk) 16).args (.cons (zI (.inl d1)) LEs.refl)) ?_
  |(refine wg (zDv n.strk h2) ?_;refine wg ((jO (¬yM n.fill∨¬yM n.strk) 16).args (.cons (zr ⟨.inr,λk=>k.resolve_left d1⟩) LEs.refl)) ?_)
 all_goals refine⟨Er,zxi,[kB (¬kX n.path) 10,kB (¬zaM n.rule) 2,kB (1<n.fill.length∨1<n.strk.length) 5,kB (0<n.strk.length/\¬kV n.pen) 13,kB (n.strk.length=0/\¬jW n.pen) 17,kB (¬yM n.fill∨¬yM n.strk) 16],rfl,wb14 ?_⟩
 all_goals refine zb.see 1 _ (znc [kB (¬kX n.path) 10,kB (¬zaM n.rule) 2,kB (1<n.fill.length∨1<n.strk.length) 5,kB (0<n.strk.length/\¬kV n.pen) 13,kB (n.strk.length=0/\¬jW n.pen) 17,kB (¬yM n.fill∨¬yM n.strk) 16]) rfl rfl rfl ?_
 all_goals refine wh ?_
 all_goals exact .refl
def zk2(n:Nd):Er:=if n.k=1 then kB (¬zj9 n.mode) 2 else if n.k=2 then znW n else zav [kB (¬zex n.im) 16,kB (n.smp≠1/\n.smp≠2) 2]
def zkb(n:Nd):Prop:=n.t.le 1000/\zez n.fill/\zez n.strk/\n.im.px.length<=9223372036854775807
def g_own(n:Nd)(h:zkb n):CX 152 [.agg (ndE n)] (.op (erV (zk2 n))):=by
 obtain⟨_,h1,h2,h3⟩:=h;refine zd func152<|Br.mk (λk1=>?_) (λk1=>?_)
 ·refine wg (zEW n.mode)<|wg (jO (¬zj9 n.mode) 2) ?_;rw[zk2,Xe k1];exact .refl
 refine⟨λk2=>?_,λk2=>?_⟩
 ·refine wg (zB6 n h1 h2) ?_;rw[zk2,Xb k1,Xe k2];exact .refl
 rw[zk2,Xb k1,Xb k2];refine wd<|wg (zmg n.im h3)<|wg (jO (¬zex n.im) 16)<|⟨λb1=>?_,λb1=>?_⟩
 all_goals refine wg ((jO (n.smp≠1/\n.smp≠2) 2).args (.cons (by first|exact zr ⟨λh=>⟨b1,h⟩,λk=>k.2⟩|exact zc λk=>b1 k.1) LEs.refl)) ?_
 all_goals refine⟨Er,zxi,[kB (¬zex n.im) 16,kB (n.smp≠1/\n.smp≠2) 2],rfl,wb14 ?_⟩
 all_goals refine zb.see 1 _ (znc [kB (¬zex n.im) 16,kB (n.smp≠1/\n.smp≠2) 2]) rfl rfl rfl ?_
 all_goals refine wh ?_
 all_goals exact .refl
def zdq:Er->Int->Int
 |.nil,c=>c
 |.w c u,_=>zdq u c
def ztX:Er->Nat
 |.nil=>0
 |.w _ u=>ztX u+1
def zsh(n:Nd):Er:=match zcg n with
 |.nil=>zk2 n
 |.w c u=>.w c u
def cellA:Option (Int×Er)->SV
 |none=>i64 0
 |some (a,_)=>i64 a
def zE1:Option (Int×Er)->SV
 |none=>.val .nilIface
 |some (_,b)=>.op (erV b)
def zzj(n:Nd)(h:zkb n):CX 108 [.agg (ndE n)] (i64 (zdq (zsh n) 0)):=by
 refine zau tok func108 rfl rfl rfl (zaS.cut tok mix 3 (λ_:Unit=>⟨[(3,.op (erV (zsh n)))],[],1,20,0⟩) (λ_=>True) ?_ λ_ _=>zaS.vc tok mix ?_)
 ·have hc:=zzi n h.1;have ht:zsh n=match zcg n with|.nil=>zk2 n|.w c u=>.w c u:=rfl
  revert hc ht
  generalize zcg n=e
  cases e with
  |nil=>
   intro hc ht;refine wg hc<|Br.mk (λ_=>?_) (λk=>absurd rfl k);refine wg (g_own n h) ?_;rw[ht];exact⟨(),tV,zi [0]⟩
  |w c u=>
   intro hc ht;refine wg hc<|Br.mk (λk=>by cases k) (λ_=>?_);rw[ht];exact⟨(),tV,zi [0]⟩
 refine⟨Er×Int×Option (Int×Er),λx=>⟨[(4,i64 x.2.1),(3,.op (erV x.1)),(5,.loc 1 0)],[(1,.box 174 [cellA x.2.2,zE1 x.2.2])],2,20,0⟩,λx=>zdq x.1 x.2.1=zdq (zsh n) 0,λx=>ztX x.1,(zsh n,0,none),rfl,zA [(1,some 1)],?_⟩
 rintro⟨e,c,o⟩ hI
 cases e with
 |nil=>
  rcases o with _|⟨a,b⟩
  ·exact zb.give [1] 0 [.op (erV .nil),.ifc 176 (.loc 0 0)] [(0,.box 174 [i64 0,.val .nilIface])] [(0,.box 174 [i64 0,.val .nilIface])] (bl false) (zoR _ _) LEs.refl rfl rfl rfl ⟨⟨_,rfl,rfl,rfl⟩,tV⟩ rfl ⟨⟨rfl,rfl⟩,tV⟩<|zh hI
  exact zb.give [1] 0 [.op (erV .nil),.ifc 176 (.loc 0 0)] [(0,.box 174 [i64 a,.op (erV b)])] [(0,.box 174 [i64 a,.op (erV b)])] (bl false) (zoR _ _) LEs.refl rfl rfl rfl ⟨⟨_,rfl,rfl,rfl⟩,tV⟩ rfl ⟨⟨rfl,rfl⟩,tV⟩<|zh hI
 |w c' u=>
  rcases o with _|⟨a,b⟩
  ·exact zb.give [1] 0 [.op (erV (.w c' u)),.ifc 176 (.loc 0 0)] [(0,.box 174 [i64 0,.val .nilIface])] [(0,.box 174 [i64 c',.op (erV u)])] (bl true) (zoS c' u _ _) LEs.refl rfl rfl rfl ⟨⟨_,rfl,rfl,rfl⟩,tV⟩ rfl ⟨⟨rfl,rfl⟩,tV⟩<|wc<|⟨(u,c',some (c',u)),hI,zA [(1,some 1)],by dsimp only[ztX];omega⟩
  exact zb.give [1] 0 [.op (erV (.w c' u)),.ifc 176 (.loc 0 0)] [(0,.box 174 [i64 a,.op (erV b)])] [(0,.box 174 [i64 c',.op (erV u)])] (bl true) (zoS c' u _ _) LEs.refl rfl rfl rfl ⟨⟨_,rfl,rfl,rfl⟩,tV⟩ rfl ⟨⟨rfl,rfl⟩,tV⟩<|wc<|⟨(u,c',some (c',u)),hI,zA [(1,some 1)],by dsimp only[ztX];omega⟩
variable{c:Int}
def zkc{p:Prop}[Decidable p]{l:List Er}:zav (kB p c::l)=if p then .w 0 (.w c .nil) else zav l:=by unfold kB;split <;> rfl
def zv3{p:Prop}[Decidable p]:zdq (kB p c) 0=if p then c else 0:=by unfold kB;split <;> rfl
def zzk{n:Nd}:¬zef n↔¬un n∨¬uR n:=by
 show¬(un n/\uR n)↔_;exact Decidable.not_and_iff_or_not
def zkd{p:Prop}[Decidable p]{l:List Er}:zdq (zav (kB p c::l)) 0=if p then c else zdq (zav l) 0:=by rw[zkc];split <;> rfl
def zE2(n:Nd):zdq (zsh n) 0=jQ n:=by
 have hs:zdq (znW n) 0=yL n:=by
  unfold znW yL;simp only[zkd];rfl
 have ho:zdq (zk2 n) 0=if n.k=1 then(if¬(1<=n.mode/\n.mode<=13) then 2 else 0) else if n.k=2 then yL n else if¬zex n.im then 16 else if n.smp≠1/\n.smp≠2 then 2 else 0:=by
  unfold zk2
  split
  ·exact zv3
  split
  ·exact hs
  simp only[zkd];rfl
 have ht:zsh n=match zcg n with|.nil=>zk2 n|.w c u=>.w c u:=rfl
 have hc:jQ n=if zp9 n then 2 else if zk1 n then 6 else if¬n.t.ok then 5 else if v7 n.t=0 then 9 else if¬kX n.clip then 10 else if¬un n∨¬uR n then 17 else zdq (zk2 n) 0:=by
  rw[ho];unfold jQ;simp only[zzk];rfl
 rw[hc,ht]
 have hm:zcg n=if zp9 n then .w 0 (.w 2 .nil) else if zk1 n then .w 0 (.w 6 .nil) else if¬n.t.ok then .w 0 (.w 5 .nil) else if v7 n.t=0 then .w 0 (.w 9 .nil) else if¬kX n.clip then .w 0 (.w 10 .nil) else if¬un n∨¬uR n then .w 0 (.w 17 .nil) else .nil:=by
  unfold zcg;simp only[zkc];rfl
 rw[hm]
 by_cases h1:zp9 n
 ·simp only[Xe h1];rfl
 simp only[Xb h1]
 by_cases h2:zk1 n
 ·simp only[Xe h2];rfl
 simp only[Xb h2]
 by_cases h3:¬n.t.ok
 ·simp only[Xe h3];rfl
 simp only[Xb h3]
 by_cases h4:v7 n.t=0
 ·simp only[Xe h4];rfl
 simp only[Xb h4]
 by_cases h5:¬kX n.clip
 ·simp only[Xe h5];rfl
 simp only[Xb h5]
 by_cases h6:¬un n∨¬uR n
 ·simp only[Xe h6];rfl
 simp only[Xb h6]
def zB7(n:Nd)(h:zkb n):CX 108 [.agg (ndE n)] (i64 (jQ n)):=zE2 n ▸ zzj n h
end
abbrev wr(x:Sc):SV:=.agg (scE x)
abbrev wv(x:Nd):SV:=.agg (ndE x)
abbrev LV:=List Nd
end Go.Gs
