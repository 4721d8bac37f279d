/- errors.As at the error of a node ('wrong'), by the kit's walk: nil; the error's own type is the target's. -/
import Derived.Test.YtkngjacccoklaaaGreatDoorMA
import Derived.Test.YtkngjacccoklaaaGreatDoorMAL
import Derived.WalkKit
import Derived.LaidEql
import Derived.Stop.Asserts
import Derived.RowKitTokens
import Derived.Test.YtkngjacccoklaaaGreatDoorMAM
import Derived.Deep.Slices
import Derived.Deep.Fields
import Derived.ChangeSame
import Derived.Lib.SmallJoins
import Derived.ProofKit
import Derived.OpenShut
import Derived.Carry
import Derived.Test.YtkngjacccoklaaaGreatDoorMAY
set_option maxRecDepth 100000
set_option maxHeartbeats 8000000
set_option linter.all false
namespace Go.Gs
open Go.Proofs Go.RowKit Go.Extern.Stop Go.Stop Go.Extern
def zuV(t:Value)(w:World):Calls Tryz.prog 162 #[.nilIface,t] w λe w'=>e=.returned (.bool false)/\w'=w:=by
 go_enter Tryz.func162,Tryz.ntmps162
 go_wp2
 go_ret
 exact⟨rfl,rfl⟩
def zpD(t:Addr)(w:World):(ReflectliteValue.unpack (.iface 201 (.pointer (some t)))).run Tryz.prog w
  =.ok (.agg #[.pointer (some ⟨3,201,none⟩),.pointer (some ⟨w.heap.size,0,none⟩),.int .u64 150]) (w.alloc (.cells #[.pointer (some t)] 201)):=by kernel_rfl
def zw1(a:Addr)(w:World):(ReflectliteValue.methodAny (ReflectliteValue.valueError "reflectlite.Value.Type" 0) (λt _ _ _=>ReflectliteType.toType t) #[.agg #[.pointer (some ⟨3,201,none⟩),.pointer (some a),.int .u64 150]]).run Tryz.prog w
  =.ok (.iface 320 (.agg #[.pointer (some ⟨3,201,none⟩)])) w:=by kernel_rfl
def zlF(h:Value)(w:World):(Go.method 548 320 (.agg #[h]) "Kind").run Tryz.prog w=.ok (498,h) w:=by kernel_rfl
def zw2(w:World):((ReflectliteType.abiMethod λt=>(λa:Nat=>Value.int IntKind.u8 (a:Int)) <$> Rtype.kind t) #[.pointer (some ⟨3,201,none⟩)]).run Tryz.prog w=.ok (.int .u8 22) w:=by kernel_rfl
def zw3(w:World):((ReflectliteType.abiMethod λt=>(λa:Nat=>Value.int IntKind.u8 (a:Int)) <$> Rtype.kind t) #[.pointer (some ⟨3,199,none⟩)]).run Tryz.prog w=.ok (.int .u8 25) w:=by kernel_rfl
def zw4(z:Sem Value)(f:TypeId->Addr->Nat->Nat->Sem Value)(v:Value):
  ReflectliteValue.method z f #[v]=(do match ←ReflectliteValue.parts v with|none=>z|some (t,a,fl)=>f t a fl (fl%32)):=rfl
def zmc(a:Addr)(w:World):(ReflectliteValue.parts (.agg #[.pointer (some ⟨3,201,none⟩),.pointer (some a),.int .u64 150])).run Tryz.prog w=.ok (some (201,a,150)) w:=by kernel_rfl
def zuW(a p:Addr)(W:World)(ha:W.cell? a=some (.pointer (some p))):
  (ReflectliteValue.method (ReflectliteValue.valueError "reflectlite.Value.IsNil" 0) ReflectliteValue.isNil #[.agg #[.pointer (some ⟨3,201,none⟩),.pointer (some a),.int .u64 150]]).run Tryz.prog W=.ok (.bool false) W:=by
 rw[zw4];simp only[Sem.run_bind,zmc,Result.andThen];simp[ReflectliteValue.isNil,loadVar,isAgg,underlying,Tryz.underlying201,ha,Result.andThen]
def zlG(h:Value)(w:World):(Go.method 548 320 (.agg #[h]) "Elem").run Tryz.prog w=.ok (509,.agg #[h]) w:=by kernel_rfl
def zeT(h:Value)(w:World):(Go.method 548 320 (.agg #[h]) "Implements").run Tryz.prog w=.ok (510,.agg #[h]) w:=by kernel_rfl
def zda(h:Value)(w:World):(Go.method 548 320 (.agg #[h]) "AssignableTo").run Tryz.prog w=.ok (507,.agg #[h]) w:=by kernel_rfl
def zw5(w:World):(ReflectliteType.method ReflectliteType.elem #[.agg #[.pointer (some ⟨3,201,none⟩)]]).run Tryz.prog w=.ok (.iface 320 (.agg #[.pointer (some ⟨3,199,none⟩)])) w:=by kernel_rfl
def zjU(w:World):(ReflectliteType.relation "Implements" ReflectliteType.implements_ #[.agg #[.pointer (some ⟨3,199,none⟩)],.iface 320 (.agg #[.pointer (some ⟨3,196,none⟩)])]).run Tryz.prog w=.ok (.bool true) w:=by kernel_rfl
def zr0(v:Value)(w:World):(ReflectliteType.typeOf #[.iface 199 v]).run Tryz.prog w=.ok (.iface 320 (.agg #[.pointer (some ⟨3,199,none⟩)])) w:=by kernel_rfl
def zjV(w:World):(ReflectliteType.relation "AssignableTo" ReflectliteType.assignableTo #[.agg #[.pointer (some ⟨3,199,none⟩)],.iface 320 (.agg #[.pointer (some ⟨3,199,none⟩)])]).run Tryz.prog w=.ok (.bool true) w:=by kernel_rfl
def zpE(c u:Value)(w:World):(ReflectliteValue.unpack (.iface 199 (.agg #[c,u]))).run Tryz.prog w
  =.ok (.agg #[.pointer (some ⟨3,199,none⟩),.pointer (some ⟨w.heap.size,0,none⟩),.int .u64 153]) (w.alloc (.cells #[c,u] 199)):=by kernel_rfl
def zr1(w:World):(Rtype.elem? 201).run Tryz.prog w=.ok (some 199) w:=by kernel_rfl
def zC8(p:Addr)(w:World):(ReflectliteValue.mk 199 p ReflectliteValue.flagAddr).run Tryz.prog w=.ok (.agg #[.pointer (some ⟨3,199,none⟩),.pointer (some p),.int .u64 409]) w:=by kernel_rfl
def zuX(a p:Addr)(W:World)(ha:W.cell? a=some (.pointer (some p))):
  (ReflectliteValue.method (ReflectliteValue.valueError "reflectlite.Value.Elem" 0) ReflectliteValue.elem #[.agg #[.pointer (some ⟨3,201,none⟩),.pointer (some a),.int .u64 150]]).run Tryz.prog W
   =.ok (.agg #[.pointer (some ⟨3,199,none⟩),.pointer (some p),.int .u64 409]) W:=by
 rw[zw4];simp only[Sem.run_bind,zmc,Result.andThen];simp[ReflectliteValue.elem,loadVar,isAgg,underlying,Tryz.underlying201,ha,Result.andThen,zr1,zC8]
def zC9(v x:Value):ReflectliteValue.set #[v,x]=(do
  let (some (dst,a,fl),some (src,b,_)):=(←ReflectliteValue.parts v,←ReflectliteValue.parts x)
   |unsupported (.noEntry "extern/(internal/reflectlite.Value).Set.zeroValue")
  if fl/ReflectliteValue.flagAddr%2==0 then unsupported (.noEntry "extern/(internal/reflectlite.Value).Set.unaddressable")
  let val ←loadVar src b
  if ←Rtype.directlyAssignable dst src then storeVar dst a val
  else if ←Rtype.implements dst src then
   if (←Rtype.kind src)==20 then
    match val with
    |.nilIface=>unsupported (.noEntry "extern/reflectlite: a nil value of one interface type handed on as a value of another")
    |_=>storeVar dst a val
   else storeVar dst a (.iface src val)
  else panicString ("reflectlite.Set: value of type " ++(←Rtype.spelt src)++ " is not assignable to type " ++(←Rtype.spelt dst))
  pure (.tuple #[])):=rfl
def zr2(a:Addr)(w:World):(ReflectliteValue.parts (.agg #[.pointer (some ⟨3,199,none⟩),.pointer (some a),.int .u64 409])).run Tryz.prog w=.ok (some (199,a,409)) w:=by kernel_rfl
def zuY(a:Addr)(w:World):(ReflectliteValue.parts (.agg #[.pointer (some ⟨3,199,none⟩),.pointer (some a),.int .u64 153])).run Tryz.prog w=.ok (some (199,a,153)) w:=by kernel_rfl
def zr3(w:World):(Rtype.directlyAssignable 199 199).run Tryz.prog w=.ok true w:=by kernel_rfl
def zpF:∃i,ti tt 199=some i/\i.sz=2/\i.kind.agg=true:=⟨_,rfl,rfl,rfl⟩
def zw6(c u:Value)(s:Nat)(W:World)(h:W.heap[s]?=some (.cells #[c,u] 199 (0,0))):
  (loadVar 199 ⟨s,0,none⟩).run Tryz.prog W=.ok (.agg #[c,u]) W:=by
 obtain⟨i,hi,hs,ha⟩:=zpF;have hT:=tok _ i hi
 have hl:=run_loadCells_list (P:=Tryz.prog) W ⟨s,0,none⟩ [c,u] (λj v hv=>by
  rw[ya]
  match j,hv with
  |0,hv=>cases hv;simp[World.cell?,h]
  |1,hv=>cases hv;simp[World.cell?,h]
  |j+2,hv=>simp at hv)
 unfold loadVar;rw[Sem.run_bind,hT.agg W,Result.andThen_ok,ha];simp only[if_true,Sem.run_bind,hT.size,Result.andThen_ok,hs];simp at hl;simp[hl]
def zuZ(c u:Value)(b:Nat)(cur:Array Value)(W:World)(hc:cur.size=2)(h:W.heap[b]?=some (.cells cur 199 (0,0)))(h1:c.oneCell'=true)(h2:u.oneCell'=true):
  (storeVar 199 ⟨b,0,none⟩ (.agg #[c,u])).run Tryz.prog W=.ok () (W.setRow b #[c,u]):=by
 obtain⟨i,hi,hs,ha⟩:=zpF
 have:=vm (tok _ i hi) (v:=.agg #[c,u]) (off:=0) h (by rw[hs];rfl) (by rw[hs,hc];decide) (λx hx=>by
  have hx:x∈[c,u]:=hx;simp only[XZ,XW,or_false]at hx
  rcases hx with rfl|rfl <;> assumption)
 rw[this,Ky (by simp[hs,hc]:cur.toList.length<=0+i.sz),Yt,Qy,XE];rfl
def zAq(b s:Nat)(c u:Value)(cur:Array Value)(W:World)(hs:W.heap[s]?=some (.cells #[c,u] 199 (0,0)))(hc:cur.size=2)(hb:W.heap[b]?=some (.cells cur 199 (0,0)))(h1:c.oneCell'=true)(h2:u.oneCell'=true):
  (ReflectliteValue.set #[.agg #[.pointer (some ⟨3,199,none⟩),.pointer (some ⟨b,0,none⟩),.int .u64 409],.agg #[.pointer (some ⟨3,199,none⟩),.pointer (some ⟨s,0,none⟩),.int .u64 153]]).run Tryz.prog W
   =.ok (.tuple #[]) (W.setRow b #[c,u]):=by
 rw[zC9];simp only[Sem.run_bind,zr2,zuY,Result.andThen];simp[ReflectliteValue.flagAddr,zw6 c u s W hs,zr3,zuZ c u b cur W hc hb h1 h2,Result.andThen]
def zu0(b:Nat)(c u:Value)(cur:Array Value)(w:World)(hg:w.cell? ⟨0,0,none⟩=some (.iface 320 (.agg #[.pointer (some ⟨3,196,none⟩)])))(hc:cur.size=2)(hb:w.heap[b]?=some (.cells cur 199 (0,0)))(h1:c.oneCell'=true)(h2:u.oneCell'=true):
  Calls Tryz.prog 162 #[.iface 199 (.agg #[c,u]),.iface 201 (.pointer (some ⟨b,0,none⟩))] w λev w'=>ev=.returned (.bool true)/\w'=((((w.alloc (.cells #[.pointer (some ⟨b,0,none⟩)] 201)).alloc (.cells #[.pointer (some ⟨3,201,none⟩),.pointer (some ⟨w.heap.size,0,none⟩),.int .u64 150] 269)).alloc (.cells #[.pointer (some ⟨3,201,none⟩),.pointer (some ⟨w.heap.size,0,none⟩),.int .u64 150] 269)).alloc (.cells #[c,u] 199)).setRow b #[c,u]:=by
 have hV:=@run_callFunc_extern Tryz.prog 238 _ (λargs=>ReflectliteValue.unpack (args.getD 0 (.tuple #[]))) Tryz.func238 (by kernel_rfl) (by kernel_rfl) (by kernel_rfl) (by kernel_rfl);have hTy:=@run_callFunc_extern Tryz.prog 239 _ (ReflectliteValue.methodAny (ReflectliteValue.valueError "reflectlite.Value.Type" 0) (λt _ _ _=>ReflectliteType.toType t)) Tryz.func239 (by kernel_rfl) (by kernel_rfl) (by kernel_rfl) (by kernel_rfl)
 have hN:=@run_callFunc_extern Tryz.prog 240 _ (ReflectliteValue.method (ReflectliteValue.valueError "reflectlite.Value.IsNil" 0) ReflectliteValue.isNil) Tryz.func240 (by kernel_rfl) (by kernel_rfl) (by kernel_rfl) (by kernel_rfl);have hK:=@run_callFunc_extern Tryz.prog 498 _ (ReflectliteType.abiMethod λt=>do pure (.int .u8 (←Rtype.kind t))) Tryz.func498 (by kernel_rfl) (by kernel_rfl) (by kernel_rfl) (by kernel_rfl)
 have hE:=@run_callFunc_extern Tryz.prog 509 _ (ReflectliteType.method ReflectliteType.elem) Tryz.func509 (by kernel_rfl) (by kernel_rfl) (by kernel_rfl) (by kernel_rfl);have hI:=@run_callFunc_extern Tryz.prog 510 _ (ReflectliteType.relation "Implements" ReflectliteType.implements_) Tryz.func510 (by kernel_rfl) (by kernel_rfl) (by kernel_rfl) (by kernel_rfl);have hO:=@run_callFunc_extern Tryz.prog 315 _ ReflectliteType.typeOf Tryz.func315 (by kernel_rfl) (by kernel_rfl) (by kernel_rfl) (by kernel_rfl)
 have hA:=@run_callFunc_extern Tryz.prog 507 _ (ReflectliteType.relation "AssignableTo" ReflectliteType.assignableTo) Tryz.func507 (by kernel_rfl) (by kernel_rfl) (by kernel_rfl) (by kernel_rfl);have hEl:=@run_callFunc_extern Tryz.prog 316 _ (ReflectliteValue.method (ReflectliteValue.valueError "reflectlite.Value.Elem" 0) ReflectliteValue.elem) Tryz.func316 (by kernel_rfl) (by kernel_rfl) (by kernel_rfl) (by kernel_rfl);have hS:=@run_callFunc_extern Tryz.prog 317 _ ReflectliteValue.set Tryz.func317 (by kernel_rfl) (by kernel_rfl) (by kernel_rfl) (by kernel_rfl);have tO:=zr0
 have mA:=zda;have aW:=zjV;have vW:=zpE;have f6:=zpD;have f7:=zw1;have mK:=zlF;have mE:=zlG;have mI:=zeT;have kP:=zw2;have kW:=zw3;have eP:=zw5;have iW:=zjU;have n8:=zuW ⟨w.heap.size,0,none⟩ ⟨b,0,none⟩ ((w.alloc (.cells #[.pointer (some ⟨b,0,none⟩)] 201)).alloc (.cells #[.pointer (some ⟨3,201,none⟩),.pointer (some ⟨w.heap.size,0,none⟩),.int .u64 150] 269)) (by simp);have hlt:0<w.heap.size:=zji hg
 have hg2:((w.alloc (.cells #[.pointer (some ⟨b,0,none⟩)] 201)).alloc (.cells #[.pointer (some ⟨3,201,none⟩),.pointer (some ⟨w.heap.size,0,none⟩),.int .u64 150] 269)).cell? ⟨0,0,none⟩=some (.iface 320 (.agg #[.pointer (some ⟨3,196,none⟩)])):=by
  rw[World.cell?_alloc_lt _ _ ⟨0,0,none⟩ (by first|(simp;done)|(simp;omega)),World.cell?_alloc_lt _ _ ⟨0,0,none⟩ hlt];exact hg
 have htl:b<w.heap.size:=by
  rcases Qe b w.heap.size with h|h
  ·exact h
  rw[KR h]at hb;cases hb
 have el:=zuX ⟨w.heap.size,0,none⟩ ⟨b,0,none⟩ (((w.alloc (.cells #[.pointer (some ⟨b,0,none⟩)] 201)).alloc (.cells #[.pointer (some ⟨3,201,none⟩),.pointer (some ⟨w.heap.size,0,none⟩),.int .u64 150] 269)).alloc (.cells #[.pointer (some ⟨3,201,none⟩),.pointer (some ⟨w.heap.size,0,none⟩),.int .u64 150] 269)) (by rw[World.cell?_alloc_lt _ _ ⟨w.heap.size,0,none⟩ (by first|(simp;done)|(simp;omega))];simp)
 have st:=zAq b (w.heap.size+1+1+1) c u cur ((((w.alloc (.cells #[.pointer (some ⟨b,0,none⟩)] 201)).alloc (.cells #[.pointer (some ⟨3,201,none⟩),.pointer (some ⟨w.heap.size,0,none⟩),.int .u64 150] 269)).alloc (.cells #[.pointer (some ⟨3,201,none⟩),.pointer (some ⟨w.heap.size,0,none⟩),.int .u64 150] 269)).alloc (.cells #[c,u] 199))
  (by have:=heap_alloc_new (((w.alloc (.cells #[.pointer (some ⟨b,0,none⟩)] 201)).alloc (.cells #[.pointer (some ⟨3,201,none⟩),.pointer (some ⟨w.heap.size,0,none⟩),.int .u64 150] 269)).alloc (.cells #[.pointer (some ⟨3,201,none⟩),.pointer (some ⟨w.heap.size,0,none⟩),.int .u64 150] 269)) (.cells #[c,u] 199);simpa using this) hc
  (by rw[heap_alloc_old _ _ (by first|(simp;done)|(simp;omega)),heap_alloc_old _ _ (by first|(simp;done)|(simp;omega)),heap_alloc_old _ _ (by first|(simp;done)|(simp;omega)),heap_alloc_old _ _ htl];exact hb) h1 h2
 go_enter Tryz.func162,Tryz.ntmps162
 go_wp2
 refine wp_loop_rounds 1 ?_;rw[rounds_succ]
 go_wp2
 go_ret
 exact⟨rfl,rfl⟩
open Go.Proofs
inductive Er
 |nil
 |w (c:Int) (u:Er)
def erV:Er->Value
 |.nil=>.nilIface
 |.w c u=>.iface 199 (.agg #[.int .i64 c,erV u])
def er_if(e:Er):ifB (erV e)=true:=by cases e <;> rfl
def zw9(e:Er):(erV e).oneCell'=true:=by cases e <;> rfl
def zxa(e:Er):List SV:=[.op (erV e)]
def LE_er{c:Int}{u:Er}:LE (.ifc 199 (.agg [i64 c,.op (erV u)])) (.op (erV (.w c u))):=λS Pm ρ w v hg=>by
 obtain⟨x,rfl,hx⟩:=hg.ifc_inv;obtain⟨vs,rfl,hvs⟩:=hx.agg_inv;obtain⟨a,r,rfl,ha,hr⟩:=hvs.cons_inv;obtain⟨b,r',rfl,hb,hr'⟩:=hr.cons_inv;rw[hr'.nil_inv,ha.val_inv,hb.op_inv.1];exact .d _ _ (.op _ rfl)
def zDa{c:Int}:LE (.ifc 199 (.agg [i64 c,.val .nilIface])) (.op (erV (.w c .nil))):=λS Pm ρ w v hg=>by
 obtain⟨x,rfl,hx⟩:=hg.ifc_inv;obtain⟨vs,rfl,hvs⟩:=hx.agg_inv;obtain⟨a,r,rfl,ha,hr⟩:=hvs.cons_inv;obtain⟨b,r',rfl,hb,hr'⟩:=hr.cons_inv;rw[hr'.nil_inv,ha.val_inv,hb.val_inv];exact .d _ _ (.op _ rfl)
def kZ(p:Prop)[Decidable p](c:Int):Er:=if p then .w c .nil else .nil
def zbc:List Er->Er
 |[]=>.nil
 |.nil::r=>zbc r
 |.w c u::_=>.w 0 (.w c u)
def zjW:∀{l:List Er},(∀e∈l,e=.nil)->zbc l=.nil
 |[],_=>rfl
 |.nil::r,h=>zjW (l:=r) λe he=>h e (.tail _ he)
 |.w c u::_,h=>by cases h _ (.head _)
def zjX:∀{l:List Er} {i:Nat} {c:Int} {u:Er},(∀e∈l.take i,e=.nil)->l[i]?=some (.w c u)->zbc l=.w 0 (.w c u)
 |[],i,c,u,_,hx=>by simp at hx
 |e::r,0,c,u,_,hx=>by simp at hx;subst hx;rfl
 |e::r,i+1,c,u,h,hx=>by
  have he:e=.nil:=h e (by rw[Km];exact .head _);subst he;exact zjX (l:=r) (i:=i) (λe he=>h e (by rw[Km];exact .tail _ he)) (by simpa using hx)
def yz(p:Prop)[Decidable p](c:Int):CG0 232 [pr p,i64 c] [] (.op (erV (kZ p c))) []:=by
 refine zc Tryz.func232 ?_;refine⟨λh=>?_,λh=>?_⟩
 ·rw[kZ,Xc h];exact ztl rfl
 rw[kZ,Xe (Xa.1 h)];exact zDa
def znT(l:List Er):CG0 231 [.sl zxa l] [] (.op (erV (zbc l))) []:=by
 refine zc Tryz.func231 ?_;intro hl;refine⟨Nat,λi=>⟨[(7,i64 (i:Int)),(6,i64 (l.length:Int)),(5,.sl zxa l)],[],0,17,0⟩,λi=>i<=l.length/\∀e∈l.take i,e=.nil,λi=>l.length-i,0,⟨Xh _,λt ht=>by cases ht⟩,?_,?_⟩
 ·exact zC []
 rintro i ⟨h1,h2⟩
 refine⟨λg=>?_,λg=>?_⟩
 ·have g:(i:Int)<l.length:=g;refine Ob.o ?_;intro x hx;have hx:l[i]?=some x:=hx;refine⟨λh=>?_,λh=>?_⟩
  ·cases x with
   |nil=>exact absurd rfl h
   |w c u=>rw[zjX h2 hx];exact LE_er
  cases x with
  |w c u=>exact absurd (λh=>by cases h) h
  |nil=>
   refine Ar.o<|⟨i+1,⟨oM,λe he=>?_⟩,zC [],by dsimp only;omega⟩;rw[Xl,hx]at he
   rcases Xs.1 he with he|he
   ·exact h2 e he
   simpa using he
 have g:¬(i:Int)<l.length:=g;rw[Xi oM]at h2;rw[zjW h2];exact ztl rfl
def glE:GL 0 (.iface 320 (.agg #[.pointer (some ⟨3,196,none⟩)])):=.head _
def zii:zbU Tryz.prog 162:=⟨_,Tryz.func162,rfl,rfl⟩
def zpG(x y:SV):CG0 162 [.op (erV .nil),.ifc 201 (.loc 0 0)] [(0,.box 199 [x,y])] (bl false) [(0,.box 199 [x,y])]:=by
 refine⟨zii,λKeep ρ w vs _ hm hρ hg=>?_⟩;obtain⟨a,r,rfl,ha,hr⟩:=hg.cons_inv;obtain⟨b,r',rfl,hb,hr'⟩:=hr.cons_inv;obtain rfl:=hr'.nil_inv;obtain rfl:=ha.op_inv.1;refine(zuV b w).mono ?_
 rintro e w' ⟨rfl,rfl⟩
 exact⟨_,ρ,rfl,.refl,hm,.d _ _ (.val _)⟩
def zK.more{Keep:Nat->Prop}{M:List (Nat×Mem)}{ρ:zi}{w:World}(hm:zK Keep M ρ w)(c:Array Value)(t:TypeId):Stp (Own M ρ) (Own M ρ) ρ ρ w (w.alloc (.cells c t))/\zK Keep M ρ (w.alloc (.cells c t)):=
 hm.same rfl rfl (.cells _ _ _) (by simp) (λb hb=>heap_alloc_old w _ hb)
def zpH(c:Int)(u:Er)(x y:SV):CG0 162 [.op (erV (.w c u)),.ifc 201 (.loc 0 0)] [(0,.box 199 [x,y])] (bl true) [(0,.box 199 [i64 c,.op (erV u)])]:=by
 refine⟨zii,λKeep ρ w vs _ hm hρ hg=>?_⟩;obtain⟨a,r,rfl,ha,hr⟩:=hg.cons_inv;obtain⟨b,r',rfl,hb,hr'⟩:=hr.cons_inv;obtain rfl:=hr'.nil_inv;obtain rfl:=ha.op_inv.1;obtain⟨p,rfl,hp⟩:=hb.ifc_inv;obtain⟨k,hk,rfl⟩:=hp.loc_inv;obtain⟨k',cs,hρ0,hheap,hlen,hone,hcells⟩:=hm.rel 0 _ (.head _);rw[hk]at hρ0;cases hρ0
 refine(zu0 k (.int .i64 c) (erV u) cs.toArray w (hm.glc glE) (by simp[hlen]) hheap rfl (zw9 u)).mono ?_
 rintro e w' ⟨rfl,rfl⟩
 obtain⟨s1,m1⟩:=hm.more #[.pointer (some ⟨k,0,none⟩)] 201;obtain⟨s2,m2⟩:=m1.more #[.pointer (some ⟨3,201,none⟩),.pointer (some ⟨w.heap.size,0,none⟩),.int .u64 150] 269;obtain⟨s3,m3⟩:=m2.more #[.pointer (some ⟨3,201,none⟩),.pointer (some ⟨w.heap.size,0,none⟩),.int .u64 150] 269;obtain⟨s4,m4⟩:=m3.more #[.int .i64 c,erV u] 199;obtain⟨k2,cs2,hρ2,hheap2,hlen2,_,_⟩:=m4.rel 0 _ (.head _);rw[hk]at hρ2;cases hρ2
 obtain⟨s5,m5⟩:=m4.write (.box 199 [i64 c,.op (erV u)]) (.head _) hk rfl #[.int .i64 c,erV u] λhs=>
  ⟨k,[.int .i64 c,erV u],hk,by simpa using setRow_heap _ k _ _ 199 _ hheap2,rfl,λv hv=>by
   simp only[XZ,XW,or_false]at hv
   rcases hv with rfl|rfl
   ·rfl
   ·exact zw9 u,λj s v hs hv=>by
   match j with
   |0=>cases hs;cases hv;exact .d _ _ (.val _)
   |1=>cases hs;cases hv;exact .d _ _ (.op _ (er_if u))
   |j+2=>simp at hs⟩
 exact⟨_,ρ,rfl,(((s1.trans s2).trans s3).trans s4).trans s5,m5,.d _ _ (.val _)⟩
end Go.Gs
namespace Go.Gs
open Go.ChangeShapes Go.WideShapes Go.Deep Go.Joins Go.RowKit
section
variable{H:Type}{enc:TypeId×Value->H}{P:Program}{w:World}{base:Nat}{held:Bool}
end
def args_stay{H:Type}{enc:TypeId×Value->H}{P:Program}(hl:laidOutB P=true){W W':World}(hb:Below W.heap.size W W'){sp:Nat->Bool}:
  ∀{ts:List TypeId} {vs:List Value} {ds:List (DataW H)} {ps:List MemPlace},(ts.all λt=>P.readableRec t&&decide (t<P.types.size))=true->
   DataW.TrodAll enc P W 0 (λ_=>true) true ts vs ds ps->(∀p∈ps,p.block<W.heap.size)->(∀p∈ps,sp p.block=true)->DataW.TrodAll enc P W' 0 sp true ts vs ds ps
 |[],[],[],_,_,h,_,_=>h
 |t::ts,v::vs,d::ds,ps,hts,⟨p,q,h1,h2,e⟩,hlt,hsp=>by
  simp only[Yx,XA,decide_eq_true_eq]at hts;have e1:∀x∈p,x∈ps:=λx hx=>by rw[e];exact Qg _ hx
  have e2:∀x∈q,x∈ps:=λx hx=>by rw[e];exact Qv _ hx
  refine⟨p,q,WideElems.Trod_stays hl hts.1.1 hts.1.2 h1 (λx hx=>hb.same (hlt x (e1 x hx))) (λx hx=>hsp x (e1 x hx)),args_stay hl hb (by simpa using hts.2) h2 (λx hx=>hlt x (e2 x hx)) (λx hx=>hsp x (e2 x hx)),e⟩
end Go.Gs
namespace Go.Gs
open Go.ChangeShapes Go.WideShapes Go.Deep Go.Joins Go.RowKit
section
inductive Sh
 |int (k:IntKind)
 |bool
 |sl (e:Sh)
 |st (fs:Sh)
 |ar (es:Sh)
 |nil
 |cons (f r:Sh)
def Sh.T:Sh->Type
 |.int _=>Int
 |.bool=>Bool
 |.sl e=>List e.T
 |.st fs=>fs.T
 |.ar es=>es.T
 |.nil=>Unit
 |.cons f r=>f.T×r.T
def Sh.dflt:(s:Sh)->s.T
 |.int _=>(0:Int)
 |.bool=>false
 |.sl _=>[]
 |.st fs=>fs.dflt
 |.ar es=>es.dflt
 |.nil=>()
 |.cons f r=>(f.dflt,r.dflt)
def Sh.n:Sh->Nat
 |.int _=>1
 |.bool=>1
 |.sl _=>1
 |.st fs=>fs.n
 |.ar es=>es.n
 |.nil=>0
 |.cons f r=>f.n+r.n
def Sh.enc:(s:Sh)->s.T->List SV
 |.int k,n=>[.val (.int k n)]
 |.bool,b=>[.pr (@Eq Bool b true) (instDecidableEqBool b true)]
 |.sl e,xs=>[.sl e.enc xs]
 |.st fs,x=>fs.enc x
 |.ar es,x=>es.enc x
 |.nil,_=>[]
 |.cons f r,x=>f.enc x.1++r.enc x.2
def Sh.wf:(s:Sh)->s.T->Prop
 |.int k,n=>(Lit.int k n).wf=true
 |.bool,_=>True
 |.sl e,xs=>∀x:e.T,@Membership.mem e.T (List e.T) _ xs x->e.wf x
 |.st fs,x=>fs.wf x
 |.ar es,x=>es.wf x
 |.nil,_=>True
 |.cons f r,x=>f.wf x.1/\r.wf x.2
def Sh.fit(P:Program):Sh->(TypeId->Bool)×(List Field->Nat->Bool)×(Nat->TypeId->Bool)
 |.int k=>(λt=>match P.underlying t with
  |some (.int k')=>zrz k k'&&Nat.beq (P.cellsOf t) 1
  |_=>false,λ_ _=>false,λ_ _=>false)
 |.bool=>(λt=>match P.underlying t with
  |some .bool=>Nat.beq (P.cellsOf t) 1
  |_=>false,λ_ _=>false,λ_ _=>false)
 |.sl e=>(λt=>match P.underlying t with
  |some (.slice u)=>(e.fit P).1 u&&Nat.beq (P.cellsOf t) 1&&Nat.blt 0 e.n
  |_=>false,λ_ _=>false,λ_ _=>false)
 |.st fs=>(λt=>match P.underlying t with
  |some (.struct gs)=>(fs.fit P).2.1 gs.toList 0&&Nat.beq (P.cellsOf t) fs.n
  |_=>false,λ_ _=>false,λ_ _=>false)
 |.ar es=>(λt=>match P.underlying t with
  |some (.array n u)=>(es.fit P).2.2 n u&&Nat.beq (P.cellsOf t) es.n
  |_=>false,λ_ _=>false,λ_ _=>false)
 |.nil=>(λ_=>false,λgs _=>match gs with
  |[]=>true
  |_=>false,λn _=>match n with
  |0=>true
  |_=>false)
 |.cons f r=>(λ_=>false,λgs off=>match gs with
  |[]=>false
  |g::gs=>Nat.beq g.offset off&&(f.fit P).1 g.type&&(r.fit P).2.1 gs (off+f.n),λn u=>match n with
  |0=>false
  |n+1=>(f.fit P).1 u&&(r.fit P).2.2 n u)
def Sh.enc_len:∀(s:Sh) (x:s.T),(s.enc x).length=s.n
 |.int _,_=>rfl
 |.bool,_=>rfl
 |.sl _,_=>rfl
 |.st fs,x=>Sh.enc_len fs x
 |.ar es,x=>Sh.enc_len es x
 |.nil,_=>rfl
 |.cons f r,x=>by
  show(f.enc x.1++r.enc x.2).length=f.n+r.n;rw[Xq,Sh.enc_len f,Sh.enc_len r]
def Dc(S:Nat->Prop)(w:World)(cs:List SV)(vs:List Value):Prop:=
 vs.length=cs.length/\∀(j:Nat) (s:SV) (v:Value),cs[j]?=some s->vs[j]?=some v->D S w s v/\v.oneCell'=true
variable{S:Nat->Prop}
def Dc.nil{w:World}:Dc S w [] []:=⟨rfl,λj s v h=>by simp at h⟩
def Dc.append{w:World}{cs ds:List SV}{vs us:List Value}(h:Dc S w cs vs)(k:Dc S w ds us):Dc S w (cs++ds) (vs++us):=by
 refine⟨by rw[Xq,Xq,h.1,k.1],λj s v hs hv=>?_⟩
 by_cases hj:j<cs.length
 ·rw[XK hj]at hs;rw[XK (by rw[h.1];exact hj)]at hv;exact h.2 j s v hs hv
 rw[XF oM]at hs;rw[XF (by rw[h.1];omega),h.1]at hv;exact k.2 _ s v hs hv
def Dc.one{w:World}{s:SV}{v:Value}(h:D S w s v)(ho:v.oneCell'=true):Dc S w [s] [v]:=⟨rfl,λj s' v' hs hv=>by
 match j with
 |0=>simp at hs hv;subst hs;subst hv;exact⟨h,ho⟩
 |j+1=>simp at hs⟩
end
section
variable{H:Type}{enc:TypeId×Value->H}{P:Program}{W:World}{held:Bool}
def zkV(L:List Value)(off a b:Nat):(L.drop off).take (a+b)=(L.drop off).take a++(L.drop (off+a)).take b:=by
 rw[List.take_add,JM]
def zBb:∀s:Sh,
  ((∀(t:TypeId) (fuel:Nat) (L:List Value) (x:DataW H×List MemPlace),(s.fit P).1 t=true->DataW.trod enc P W 0 (λ_=>true) held fuel t L=some x->
   P.cellsOf t=s.n/\L.length=s.n/\∃y:s.T,s.wf y/\∀S:Nat->Prop,(∀b,¬S b)->Dc S W (s.enc y) L))/\
  (∀(gs:List Field) (off m:Nat) (L:List Value),(s.fit P).2.1 gs off=true->(∀g∈gs,∃x,DataW.trod enc P W 0 (λ_=>true) held m g.type ((L.drop g.offset).take (P.cellsOf g.type))=some x)->
   ∃y:s.T,s.wf y/\∀S:Nat->Prop,(∀b,¬S b)->Dc S W (s.enc y) ((L.drop off).take s.n))/\
  (∀(n i m:Nat) (u:TypeId) (L:List Value),(s.fit P).2.2 n u=true->(∀j,j<n->∃x,DataW.trod enc P W 0 (λ_=>true) held m u ((L.drop ((i+j)*P.cellsOf u)).take (P.cellsOf u))=some x)->
   ∃y:s.T,s.wf y/\∀S:Nat->Prop,(∀b,¬S b)->Dc S W (s.enc y) ((L.drop (i*P.cellsOf u)).take s.n)):=by
 intro s
 induction s with
 |int k=>
  refine⟨λt fuel L x hf h=>?_,λ_ _ _ _ hf _=>(by cases hf),λ_ _ _ _ _ hf _=>(by cases hf)⟩;unfold Sh.fit at hf;dsimp only at hf
  split at hf
  ·rename_i k' hk;simp only[XA]at hf;obtain⟨hk',hc⟩:=hf;have hk':=zf0 hk';subst hk';obtain⟨q,rfl,_,hw⟩:=DataW.trod_int hk h;exact⟨Xj hc,rfl,q,hw,λS _=>.one (.val _) rfl⟩
  cases hf
 |bool=>
  refine⟨λt fuel L x hf h=>?_,λ_ _ _ _ hf _=>(by cases hf),λ_ _ _ _ _ hf _=>(by cases hf)⟩;unfold Sh.fit at hf;dsimp only at hf
  split at hf
  ·rename_i hk;obtain⟨b,rfl,_⟩:=DataW.trod_bool hk h;refine⟨Xj hf,rfl,b,trivial,λS _=>.one ?_ rfl⟩;have:=D.pr (S:=S) (w:=W) (b=true) inferInstance
   rwa [show decide (b=true)=b by cases b <;> rfl]at this
  cases hf
 |sl e ih=>
  refine⟨λt fuel L x hf h=>?_,λ_ _ _ _ hf _=>(by cases hf),λ_ _ _ _ _ hf _=>(by cases hf)⟩;unfold Sh.fit at hf;dsimp only at hf
  split at hf
  ·rename_i u hk;simp only[XA]at hf;obtain⟨⟨he,hc⟩,hpos⟩:=hf;have hpos:0<e.n:=by simpa using hpos
   refine⟨Xj hc,?_⟩
   obtain⟨rfl,_⟩|⟨a,len,cap,m,n,Df,Pl,rfl,_,hl,hm,hmm,_,hi⟩:=open_slice hk h
   ·exact⟨rfl,([]:List e.T),λx hx=>(by cases hx),λS _=>.one (.nil _ _) rfl⟩
   have hmc:m=cap:=by simpa using hmm
   subst hmc;refine⟨rfl,?_⟩
   have key:∀i,i<m->∃cs',P.cellsOf u=e.n/\W.cells? 0 (a.add (i*e.n)) e.n=some cs'/\∃y:e.T,e.wf y/\∀S:Nat->Prop,(∀b,¬S b)->Dc S W (e.enc y) cs':=λi hi'=>by
    obtain⟨cs',h1,h2⟩:=hi i hi';obtain⟨g1,g2,g3⟩:=ih.1 u n cs' _ he h2;rw[g1]at h1;exact⟨cs',g1,h1,g3⟩
   by_cases h0:m=0
   ·subst h0;have:len=0:=oM;subst this;exact⟨([]:List e.T),λx hx=>(by cases hx),λS _=>.one (.nil _ _) rfl⟩
   have hspot:a.spot=none/\a.block<W.heap.size:=by
    obtain⟨cs',_,h1,_⟩:=key 0 oM;obtain⟨_,_,hat⟩:=World.cells?_some h1;have h2:=hat 0 hpos;have hlen:cs'.length=e.n:=by obtain⟨_,hl,_⟩:=World.cells?_some h1;exact hl
    rw[Xb oM,QZ]at h2;have:(a.add 0).add 0=a:=by unfold Addr.add;simp
    rw[this]at h2;unfold World.cell? at h2
    split at h2
    ·rename_i hb
     split at h2
     ·cases h2
     rename_i hs;refine⟨by simpa using hs,(XO.1 hb).1⟩
    cases h2
   obtain⟨b,o,sp⟩:=a;obtain⟨hs,hb⟩:=hspot;have hs:sp=none:=hs;subst hs
   haveI:Inhabited e.T:=⟨e.dflt⟩
   obtain⟨F,hF⟩:=choose_lt (α:=e.T) (n:=m) (p:=λi y=>∃cs',W.cells? 0 (Addr.add ⟨b,o,none⟩ (i*e.n)) e.n=some cs'/\e.wf y/\∀S:Nat->Prop,(∀b,¬S b)->Dc S W (e.enc y) cs') (λi hi'=>by
    obtain⟨cs',_,h1,y,hy,hd⟩:=key i hi'
    exact⟨y,cs',h1,hy,hd⟩)
   refine⟨(List.range len).map F,λx hx=>?_,λS hS=>.one ?_ rfl⟩
   ·obtain⟨i,hi',rfl⟩:=XP.1 hx;obtain⟨_,_,hw,_⟩:=hF i (by have:=Kd.1 hi';omega);exact hw
   have at1:∀i j,i<m->j<e.n->∃v,W.cell? ⟨b,o+i*e.n+j,none⟩=some v/\v.oneCell'=true/\∀s,(e.enc (F i))[j]?=some s->D S W s v:=λi j hi' hj=>by
    obtain⟨cs',h1,_,hd⟩:=hF i hi';obtain⟨_,hlen,hat⟩:=World.cells?_some h1;have h2:=hat j hj;rw[Xb oM,add_add]at h2;have e1:Addr.add ⟨b,o,none⟩ (i*e.n+j)=⟨b,o+i*e.n+j,none⟩:=by rw[ya,←KB]
    rw[e1]at h2;have hd:=hd S hS;have hjl:j<(e.enc (F i)).length:=by rw[Sh.enc_len];exact hj
    have:=hd.2 j _ _ (Xb hjl) (Xb (show j<cs'.length by omega));refine⟨_,h2,this.2,λs hs=>?_⟩;exact(hd.2 j s _ hs (Xb (show j<cs'.length by omega))).1
   have hsl:=D.sl (S:=S) (w:=W) e.enc ((List.range len).map F) e.n b o m (λi j=>(W.cell? ⟨b,o+i*e.n+j,none⟩).getD undef) hb (hS b) (by simp;unfold maxLen at hm;omega) (by simpa using hl) (λx _=>Sh.enc_len e x) (λi j hi' hj=>by
    obtain⟨v,h1,h2,_⟩:=at1 i j (by simp at hi';omega) hj
    rw[h1];exact⟨rfl,h2⟩) (λi j x s hx hs=>by
    have hi':i<len:=by have:=(Xd.1 hx).1;simpa using this
    simp only[XD,Ql hi',Qb,Jo]at hx;subst hx;have hj:j<e.n:=by have:=(Xd.1 hs).1;rw[Sh.enc_len]at this;exact this
    obtain⟨v,h1,_,h3⟩:=at1 i j oM hj
    rw[h1];exact h3 s hs)
   simpa using hsl
  cases hf
 |st fs ih=>
  refine⟨λt fuel L x hf h=>?_,λ_ _ _ _ hf _=>(by cases hf),λ_ _ _ _ _ hf _=>(by cases hf)⟩;unfold Sh.fit at hf;dsimp only at hf
  split at hf
  ·rename_i gs hk;simp only[XA]at hf;obtain⟨hg,hc⟩:=hf;have hc:=Xj hc;obtain⟨xs,m,_,_,hl,hxl,hfl⟩:=DataW.trod_struct hk h
   obtain⟨y,hy,hd⟩:=ih.2.1 gs.toList 0 m L hg (λg hg'=>by
    obtain⟨i,hi,rfl⟩:=Kl hg';have hi':i<gs.size:=by simpa using hi
    have:=hfl i gs[i] (by simp[hi'])
    exact⟨xs[i]'oM,by simpa[Xb (show i<xs.length by omega)] using this⟩)
   refine⟨hc,hl.trans hc,y,hy,λS hS=>?_⟩;have:=hd S hS;rw[KZ,Xi (by show L.length<=fs.n;omega)]at this;exact this
  cases hf
 |ar es ih=>
  refine⟨λt fuel L x hf h=>?_,λ_ _ _ _ hf _=>(by cases hf),λ_ _ _ _ _ hf _=>(by cases hf)⟩;unfold Sh.fit at hf;dsimp only at hf
  split at hf
  ·rename_i n u hk;simp only[XA]at hf;obtain⟨hg,hc⟩:=hf;have hc:=Xj hc;obtain⟨xs,m,_,_,hl,hxl,hfl⟩:=DataW.trod_array hk h
   obtain⟨y,hy,hd⟩:=ih.2.2 n 0 m u L hg (λj hj=>by
    have:=hfl j hj
    exact⟨xs[j]'oM,by rw[Ka,this,Xb (show j<xs.length by omega)]⟩)
   refine⟨hc,hl.trans hc,y,hy,λS hS=>?_⟩;have:=hd S hS;rw[QZ,KZ,Xi (by show L.length<=es.n;omega)]at this;exact this
  cases hf
 |nil=>
  refine⟨λt fuel L x hf h=>(by cases hf),λgs off m L hf _=>⟨(),trivial,λS _=>?_⟩,λn i m u L hf _=>⟨(),trivial,λS _=>?_⟩⟩
  ·show Dc S W [] ((L.drop off).take 0);rw[Yt];exact .nil
  show Dc S W [] ((L.drop _).take 0);rw[Yt];exact .nil
 |cons f r ihf ihr=>
  refine⟨λt fuel L x hf h=>(by cases hf),λgs off m L hf hx=>?_,λn i m u L hf hx=>?_⟩
  ·unfold Sh.fit at hf;dsimp only at hf
   split at hf
   ·cases hf
   rename_i g gs;simp only[XA]at hf;obtain⟨⟨ho,h1⟩,h2⟩:=hf;have ho:=Xj ho;subst ho;obtain⟨x,hx0⟩:=hx g (List.mem_cons_self ..);obtain⟨g1,g2,y,hy,hd⟩:=ihf.1 g.type m _ x h1 hx0;obtain⟨z,hz,he⟩:=ihr.2.1 gs (g.offset+f.n) m L h2 (λg' hg'=>hx g' (List.mem_cons_of_mem _ hg'));refine⟨(y,z),⟨hy,hz⟩,λS hS=>?_⟩;show Dc S W (f.enc y++r.enc z) ((L.drop g.offset).take (f.n+r.n));rw[zkV];have:=hd S hS;rw[g1]at this;exact this.append (he S hS)
  unfold Sh.fit at hf;dsimp only at hf
  split at hf
  ·cases hf
  rename_i n;simp only[XA]at hf;obtain⟨h1,h2⟩:=hf;obtain⟨x,hx0⟩:=hx 0 oM;obtain⟨g1,g2,y,hy,hd⟩:=ihf.1 u m _ x h1 hx0
  obtain⟨z,hz,he⟩:=ihr.2.2 n (i+1) m u L h2 (λj hj=>by
   have:=hx (j+1) oM
   rwa [show i+(j+1)=i+1+j by omega]at this)
  refine⟨(y,z),⟨hy,hz⟩,λS hS=>?_⟩;show Dc S W (f.enc y++r.enc z) ((L.drop (i*P.cellsOf u)).take (f.n+r.n));rw[zkV];have:=hd S hS;rw[XQ,g1]at this;have he:=he S hS;rw[g1,X0,Yu]at he;rw[g1];exact this.append he
end
def LEd(s r:SV):Prop:=∀(S:Nat->Prop) (w:World) (v:Value),D S w s v->D S w r v
inductive qZ:List SV->List SV->Prop
 |nil:qZ [] []
 |cons {a b:SV} {us bs:List SV} (h:LEd a b) (t:qZ us bs):qZ (a::us) (b::bs)
def LEd.refl{s:SV}:LEd s s:=λ_ _ _ h=>h
def qZ.refl:∀{us:List SV},qZ us us
 |[]=>.nil
 |_::_=>.cons .refl .refl
def qZ.C{a:SV}{us bs:List SV}(t:qZ us bs):qZ (a::us) (a::bs):=.cons .refl t
def qZ.append{us bs cs ds:List SV}(h:qZ us bs)(k:qZ cs ds):qZ (us++cs) (bs++ds):=by
 induction h with
 |nil=>exact k
 |cons h _ ih=>exact .cons h ih
def qZ.ix{us bs:List SV}(h:qZ us bs):us.length=bs.length/\∀(j:Nat) (s r:SV),us[j]?=some s->bs[j]?=some r->LEd s r:=by
 induction h with
 |nil=>exact⟨rfl,λj s r h=>by simp at h⟩
 |cons h t ih=>
  refine⟨by simp[ih.1],λj s r hs hr=>?_⟩
  cases j with
  |zero=>simp at hs hr;subst hs;subst hr;exact h
  |succ j=>exact ih.2 j s r (by simpa using hs) (by simpa using hr)
def LEd.sl{α β:Type}{e:α->List SV}{g:β->List SV}(f:α->β){xs:List α}(he:∀x∈xs,qZ (e x) (g (f x))):LEd (.sl e xs) (.sl g (xs.map f)):=λS w v h=>by
 cases h with
 |nil _ a=>exact .nil g a
 |sl _ _ sz b o cap c hb hS hlen hcap hsz hc h=>
  have:=D.sl (S:=S) (w:=w) g (xs.map f) sz b o cap c hb hS (by simpa using hlen) (by simpa using hcap) (λy hy=>by
   obtain⟨x,hx,rfl⟩:=XP.1 hy
   rw[←(he x hx).ix.1];exact hsz x hx) (λi j hi hj=>hc i j (by simpa using hi) hj) (λi j y s hy hs=>by
   rw[XD]at hy
   cases hx:xs[i]? with
   |none=>simp[hx]at hy
   |some x=>
    simp[hx]at hy;subst hy;have he:=he x (Xf hx);have hj:j<(e x).length:=by rw[he.ix.1];exact(Xd.1 hs).1
    have hs0:=Xb hj
    exact he.ix.2 j _ s hs0 hs _ _ _ (h i j x _ hx hs0))
  simpa using this
def zyU{α β:Type}{e:α->List SV}{g:β->List SV}(f:α->β){xs:List α}(he:∀x∈xs,qZ (e x) (g (f x))):LE (.sl e xs) (.sl g (xs.map f)):=λ_ _ _ _ _ hg=>.d _ _ (LEd.sl f he _ _ _ hg.sl_inv)
def qZ.gs{us bs:List SV}(h:qZ us bs){S Pm:Nat->Prop}{ρ:zi}{w:World}{vs:List Value}(hd:vs.length=us.length/\∀(j:Nat) (s:SV) (v:Value),us[j]?=some s->vs[j]?=some v->D S w s v):Gs S Pm ρ w bs vs:=
 ⟨hd.1.trans h.ix.1,λj r v hr hv=>by
  have hj:j<us.length:=by rw[h.ix.1];exact(Xd.1 hr).1
  have hs:=Xb hj
  exact .d _ _ (h.ix.2 j _ r hs hr _ _ _ (hd.2 j _ v hs hv))⟩
section
variable{H:Type}{enc:TypeId×Value->H}{P:Program}{W:World}{held:Bool}
def zmU{b0:Nat}{t:TypeId}{v:Value}{d:DataW H}{p:List MemPlace}(s:Sh)(hf:(s.fit P).1 t=true)(ha:(match P.underlying t with|some (.struct _)=>true|some (.array _ _)=>true|_=>false)=true)(hv:Value.okWide P W .any b0 t v)(h:DataW.Trod enc P W 0 (λ_=>true) held t v d p):
  ∃y:s.T,s.wf y/\∀(g:List SV),qZ (s.enc y) g->∀(S Pm:Nat->Prop) (ρ:zi),(∀b,¬S b)->G S Pm ρ W (.agg g) v:=by
 obtain⟨fuel,hx⟩:=h;obtain⟨_,_,y,hy,hd⟩:=(zBb s).1 t fuel _ _ hf hx
 have:∃cs,v=.agg cs:=by
  unfold Value.okWide at hv
  split at ha
  ·rename_i h1;rw[h1]at hv;obtain⟨cs,rfl,_⟩:=hv;exact⟨cs,rfl⟩
  ·rename_i h1;rw[h1]at hv;obtain⟨cs,rfl,_⟩:=hv;exact⟨cs,rfl⟩
  cases ha
 obtain⟨cs,rfl⟩:=this;refine⟨y,hy,λg hg S Pm ρ hS=>?_⟩;have hd1:=hd S hS;have g1:=hg.gs (Pm:=Pm) (ρ:=ρ) ⟨hd1.1,λj s v hs hv=>(hd1.2 j s v hs hv).1⟩;have:=G.agg (S:=S) (Pm:=Pm) (ρ:=ρ) (w:=W) _ _ g1.1 g1.2
 rwa [show(Value.agg cs).cells.toList.toArray=cs from Array.toArray_toList]at this
end
open Go.Proofs
inductive Pw
 |d (q:Pl)
 |c (r:List Pt)
def pwE:Pw->List SV
 |.d q=>plE q
 |.c r=>[.sl ptE r,.val (.bool false)]
def pwP:Pw->Pl
 |.d q=>q
 |.c r=>⟨r,false⟩
def zvJ{q:Prop}{j:Decidable q}(h:¬q):LEd (.val (.bool false)) (.pr q j):=λS w v hd=>by
 cases hd
 have:=D.pr (S:=S) (w:=w) q j
 simpa[h] using this
def LE_pw(l:List Pw):LE (.sl pwE l) (.sl plE (l.map pwP)):=zyU pwP λx _=>by
 cases x with
 |d q=>exact .refl
 |c r=>exact .C (.cons (zvJ (show¬(false=true) by decide)) .nil)
def zmV(p:Pl)(q:Nat×Nat):Pw:=if p.cl=true/\q.1=0/\(q.2:Int)=zL p then .d (zt p) else .c (vi (zj p) q.1 q.2)
def zBc(p:Pl)(q:Nat×Nat):pwP (zmV p q)=jW p q:=by
 unfold zmV jW
 split <;> rfl
def zvK(p:Pl)(l:List (Nat×Nat)):(l.map (zmV p)).map pwP=l.map (jW p):=by
 rw[List.map_map];exact Qm λq _=>zBc p q
def zix{pen:Pen}{long:Int}:∀q∈kS pen long,q.1<q.2/\(q.2:Int)<=long/\1<=long:=by
 intro q hq;unfold kS at hq
 split at hq
 ·cases hq
 rename_i h;have h1:¬long<1:=λk=>h (.inr (.inl k))
 split at hq
 ·have:=Xv.1 hq;subst this;dsimp only;omega
 have:=zkA q hq;omega
def zfM(p:Pl)(hp:p.pts.length<=4096):0<=zL p/\zL p<=17596481011712:=by
 have h:=vT (zj p) ((zj p).length-1);have h1:=jD (zt p);have h2:=jp p;rw[←yJ]at h1;unfold zL;omega
def zqZ{p:Pl}(h:1<=zL p):2<=(zj p).length:=by
 refine QX λk=>?_
 have:=zqq (p:=p) oM;omega
def zeL{p:Pl}{pen:Pen}{q:Nat×Nat}(hp:p.pts.length<=4096)(h:q∈kS pen (zL p)):0<(jW p q).pts.length/\(jW p q).pts.length<=4100:=by
 obtain⟨_,_,h1⟩:=zix q h;have h2:=zqZ h1;have ll:=jD (zt p);have dl:=jp p;rw[←yJ]at ll;unfold jW
 split
 ·rename_i k
  have:(zt p).pts.length≠0:=λe=>by
   have:=zbC (q:=zt p) oM;rw[←yJ]at this;omega
  omega
 have:=zoE (zj p) q.1 q.2;dsimp only;omega
def zgS(a b:List Pl):jm (a++b)=jm a+jm b:=by unfold jm;simp
def zeM:∀{l:List Pl},(∀x∈l,0<x.pts.length)->l.length<=jm l
 |[],_=>Xh _
 |x::r,h=>by
  have h1:=h x (.head _);have h2:=zeM (l:=r) λy hy=>h y (.tail _ hy)
  have e:jm (x::r)=x.pts.length+jm r:=by unfold jm;simp
  rw[e,Xn];omega
def zfN(p:Pl)(pen:Pen)(j:Nat):Nat:=jm (((kS pen (zL p)).take j).map (jW p))
def zvL{p:Pl}{pen:Pen}{j:Nat}{y:Nat×Nat}(h:(kS pen (zL p))[j]?=some y):zfN p pen (j+1)=zfN p pen j+(jW p y).pts.length:=by
 unfold zfN;rw[Xl,h,XB,zgS];show _+jm [jW p y]=_;unfold jm;simp
def zBd(p:Pl)(pen:Pen)(j:Nat):zfN p pen j<=jm ((kS pen (zL p)).map (jW p)):=by
 have e:(kS pen (zL p)).map (jW p)=((kS pen (zL p)).take j).map (jW p)++((kS pen (zL p)).drop j).map (jW p):=by
  rw[←XB,Kj]
 rw[e,zgS];exact Jv _ _
def zBe{p:Pl}{pen:Pen}(hp:p.pts.length<=4096)(j:Nat):((kS pen (zL p)).take j).length<=zfN p pen j:=by
 have:=zeM (l:=((kS pen (zL p)).take j).map (jW p)) λx hx=>by
  obtain⟨q,hq,rfl⟩:=XP.1 hx;exact(zeL hp (XL hq)).1
 rwa [Xx]at this
def dM(p:Pl)(pen:Pen)(j:Nat):List (Nat×Mem):=
 [(0,.box 143 [.sl ptE p.pts,pr (p.cl=true)]),(1,.box 136 [.val (.slice none 0 0)]),(2,.box 55 [i64 0]),(3,.box 229 (meE (meQ (zt p)))),
  (4,.box 136 [.own 6]),(5,.box 3 [i64 (zfN p pen j:Int)]),(6,.arr 143 pwE 2 (((kS pen (zL p)).take j).map (zmV p)))]
def dB(p:Pl):List (Nat×Mem):=
 [(0,.box 143 [.sl ptE p.pts,pr (p.cl=true)]),(1,.box 136 [.val (.slice none 0 0)]),(2,.box 55 [i64 0]),(3,.box 229 (meE (meQ (zt p)))),
  (4,.box 136 [.sl ptE (List.replicate 9223372036854775808 zp)]),(5,.box 3 [i64 4097])]
def dS(p:Pl)(pen:Pen)(j:Nat):List (Nat×Mem):=if zfN p pen j<=4096 then dM p pen j else dB p
def zt7{S Pm:Nat->Prop}{ρ:zi}{w:World}{v:Value}:¬G S Pm ρ w (.sl ptE (List.replicate 9223372036854775808 zp)) v:=λhg=>by
 have key:∀{xs:List Pt} {u:Value},D S w (.sl ptE xs) u->xs.length<=9223372036854775807:=λhd=>by
  cases hd with
  |nil=>decide
  |sl _ _ sz b o cap c hb hS hlen=>exact hlen
 have:=key hg.sl_inv;rw[Ki]at this;omega
def zBf{a s:SV}:LE (.tup [.sl ptE (List.replicate 9223372036854775808 zp),a]) s:=λS Pm ρ w v hg=>by
 cases hg with
 |d _ _ hd=>cases hd
 |tup cs vs hl h=>
  obtain⟨u,hu⟩:∃u,vs[0]?=some u:=⟨_,Xb (by rw[hl];exact Nat.succ_pos 1)⟩;exact absurd (h 0 _ u rfl hu) zt7
def dS_pf(p:Pl)(pen:Pen)(j:Nat):zkI (dS p pen j):=by
 unfold dS
 split
 ·intro k m hm;unfold dM at hm;simp only[XZ,XW,or_false,KD]at hm
  obtain⟨_,rfl⟩|⟨_,rfl⟩|⟨_,rfl⟩|⟨_,rfl⟩|⟨_,rfl⟩|⟨_,rfl⟩|⟨_,rfl⟩:=hm
  all_goals first|rfl|trivial
 intro k m hm;unfold dB at hm;simp only[XZ,XW,or_false,KD]at hm
 obtain⟨_,rfl⟩|⟨_,rfl⟩|⟨_,rfl⟩|⟨_,rfl⟩|⟨_,rfl⟩|⟨_,rfl⟩:=hm
 all_goals first|rfl|trivial
def zyV(p:Pl)(pen:Pen)(hp:p.pts.length<=4096):CG0 129 [.agg (plE p),.agg (jb pen)] [] (zou (jv p pen)) []:=by
 refine vf 3 tok mix Tryz.func129 rfl rfl rfl ?_
 have es:jv p pen=if¬kC pen then([],13) else if¬∀q∈p.pts,zr q then([],6) else if 4096<p.pts.length then([],5)
  else if pen.d=[] then([zt p],0) else if 4096<jm ((kS pen (zL p)).map (jW p)) then([],5) else((kS pen (zL p)).map (jW p),0):=rfl
 refine zb.t (zey pen)<|⟨λk=>?_,λk=>?_⟩
 ·have k:¬kC pen:=k;exact jo (by rw[es,Xe k])
 have k:kC pen:=Xa.1 k;rw[kH k]at es
 by_cases ok:∀q∈p.pts,zr q
 rotate_left
 ·refine zb.t (zmR p hp)<|⟨λ_=>?_,λh=>absurd (Xa.1 h) ok⟩;exact jo (by rw[es,Xe ok])
 rw[kH ok,Xc (show¬4096<p.pts.length by omega)]at es;have hM:=zmR p hp;rw[zBa ok]at hM;refine zb.t hM<|Br.mk (λh=>absurd ok h) (λ_=>?_);intro hl1;refine⟨λh=>absurd (show(4096:Int)<p.pts.length from h) oM,λ_=>?_⟩;intro hl2;refine⟨λz=>?_,λz=>?_⟩
 ·have z:(pen.d.length:Int)=0:=z;have z:pen.d=[]:=Xp oM;refine zb.t (zgM p hp)<|⟨Pl,plE,[zt p],rfl,Ob.o0 ?_⟩;rw[es,Xe z];exact .refl
 have z:¬(pen.d.length:Int)=0:=z;rw[Xc (λh=>z (by rw[h];rfl))]at es;have lr:=zfM p hp;refine zb.t (p_on pen (zL p))<|⟨Nat×Nat,runE,kS pen (zL p),6,[(2,.loc 0 0),(4,.loc 1 0),(5,.loc 2 0),(6,.loc 3 0),(8,.loc 4 0),(9,.loc 5 0)],dS p pen,λ_=>7,zA9 pen (zL p) oM,λ_=>rfl,⟨rfl,rfl,rfl,rfl⟩,?_,⟨Xh _,rfl⟩,dS_pf p pen,?_,?_⟩
 ·rw[show dS p pen 0=dM p pen 0 from Xe (Xh _)];exact zC [(0,some 0),(1,some 2),(2,some 3),(3,some 4),(4,some 5),(5,some 6),(6,none)]
 ·intro j y hy _;have hm:=Xf hy;obtain⟨y1,y2,y3⟩:=zix y hm;have cs:=zvL hy;have cle:=zBd p pen (j+1);have dp:=zeL hp hm;have bad:4096<zfN p pen (j+1)->jv p pen=([],5):=λh=>by rw[es,Xe oM]
  have dl:=jp p;have ll:=jD (zt p);rw[←yJ]at ll;have l2:=zqZ y3;have w1:p.cl=true->(y.1:Int)=0->(y.2:Int)=zL p->zmV p y=.d (zt p)/\(jW p y).pts=(zt p).pts:=λa b c=>⟨Xe ⟨a,oM,c⟩,Xg Pl.pts (Xe ⟨a,oM,c⟩)⟩
  have w2:¬(p.cl=true/\(y.1:Int)=0/\(y.2:Int)=zL p)->zmV p y=.c (vi (zj p) y.1 y.2)/\(jW p y).pts=vi (zj p) y.1 y.2:=λh=>
   ⟨Xc λk=>h ⟨k.1,oM,k.2.2⟩,Xg Pl.pts (Xc λk=>h ⟨k.1,oM,k.2.2⟩)⟩
  by_cases hc:zfN p pen j<=4096
  ·rw[show dS p pen j=dM p pen j from Xe hc];have cg:=zBe (pen:=pen) hp j;refine⟨λc=>Br.mk (λc1=>Br.mk (λc2=>?_) (λc2=>?_)) (λc1=>?_),λc=>?_⟩
   ·obtain⟨e1,e2⟩:=w1 c c1 c2;rw[e2]at cs dp;refine zb.t (zgM p hp) ?_;intro hl3;refine Ar.o<|Br.mk (λo=>?_) (λo=>?_)
    ·have o:(4096:Int)<(zfN p pen j:Int)+((zt p).pts.length:Int):=o;refine⟨[(1,.box 136 [.val (.slice none 0 0)]),(2,.box 55 [i64 5])],6,zf [0,1,2,3,4,5],λk m hm=>?_,jo (bad oM)⟩;simp only[XZ,XW,or_false,KD]at hm
     obtain⟨_,rfl⟩|⟨_,rfl⟩:=hm <;> rfl
    have o:¬(4096:Int)<(zfN p pen j:Int)+((zt p).pts.length:Int):=o;refine⟨Pw,pwE,[.d (zt p)],rfl,Ob.o5 ?_⟩;refine⟨[.d (zt p)],rfl,Ob.o25 ?_⟩;rw[show dS p pen (j+1)=dM p pen (j+1) from Xe oM];refine zu [0,1,2,3,4,5,9] ⟨rfl,rfl,rfl,rfl,rfl,Xg (λn=>some (Mem.box 3 [i64 n])) oM,Xg (λq=>some (Mem.arr 143 pwE 2 q)) ?_,trivial⟩;rw[Xl,hy,XB,←e1];rfl
   all_goals
    have hno:¬(p.cl=true/\(y.1:Int)=0/\(y.2:Int)=zL p):=by
     first
     |exact λh=>c2 h.2.2
     |exact λh=>c1 h.2.1
     |exact λh=>c h.1
    obtain⟨e1,e2⟩:=w2 hno;rw[e2]at cs dp;have hcut:CG0 194 [.agg (meE (meQ (zt p))),i64 (y.1:Int),i64 (y.2:Int)] [] (.sl ptE (vi (zj p) y.1 y.2)) []:=zCA (zt p) y.1 y.2 oM l2 ⟨oM,oM⟩ ⟨oM,oM⟩;refine zb.t hcut ?_;intro hl3;refine Ar.o<|Br.mk (λo=>?_) (λo=>?_)
    ·have o:(4096:Int)<(zfN p pen j:Int)+((vi (zj p) y.1 y.2).length:Int):=o;refine⟨[(1,.box 136 [.val (.slice none 0 0)]),(2,.box 55 [i64 5])],6,zf [0,1,2,3,4,5],λk m hm=>?_,jo (bad oM)⟩;simp only[XZ,XW,or_false,KD]at hm
     obtain⟨_,rfl⟩|⟨_,rfl⟩:=hm <;> rfl
    have o:¬(4096:Int)<(zfN p pen j:Int)+((vi (zj p) y.1 y.2).length:Int):=o;refine⟨Pw,pwE,[.c (vi (zj p) y.1 y.2)],rfl,Ob.o5 ?_⟩;refine⟨[.c (vi (zj p) y.1 y.2)],rfl,Ob.o25 ?_⟩;rw[show dS p pen (j+1)=dM p pen (j+1) from Xe oM];refine zu [0,1,2,3,4,5,9] ⟨rfl,rfl,rfl,rfl,rfl,Xg (λn=>some (Mem.box 3 [i64 n])) oM,Xg (λq=>some (Mem.arr 143 pwE 2 q)) ?_,trivial⟩;rw[Xl,hy,XB,←e1];rfl
  rw[show dS p pen j=dB p from Xc hc];refine⟨λc=>Br.mk (λc1=>Br.mk (λc2=>?_) (λc2=>?_)) (λc1=>?_),λc=>?_⟩
  ·obtain⟨e1,e2⟩:=w1 c c1 c2;rw[e2]at cs dp;refine zb.t (zgM p hp) ?_;intro hl3;refine Ar.o<|Br.mk (λo=>?_) (λo=>absurd (show(4096:Int)<4097+((zt p).pts.length:Int) by omega) o);refine⟨[(1,.box 136 [.val (.slice none 0 0)]),(2,.box 55 [i64 5])],6,zf [0,1,2,3,4,5],λk m hm=>?_,jo (bad oM)⟩;simp only[XZ,XW,or_false,KD]at hm
   obtain⟨_,rfl⟩|⟨_,rfl⟩:=hm <;> rfl
  all_goals
   have hno:¬(p.cl=true/\(y.1:Int)=0/\(y.2:Int)=zL p):=by
    first
    |exact λh=>c2 h.2.2
    |exact λh=>c1 h.2.1
    |exact λh=>c h.1
   obtain⟨e1,e2⟩:=w2 hno;rw[e2]at cs dp;have hcut:CG0 194 [.agg (meE (meQ (zt p))),i64 (y.1:Int),i64 (y.2:Int)] [] (.sl ptE (vi (zj p) y.1 y.2)) []:=zCA (zt p) y.1 y.2 oM l2 ⟨oM,oM⟩ ⟨oM,oM⟩;refine zb.t hcut ?_;intro hl3;refine Ar.o<|Br.mk (λo=>?_) (λo=>absurd (show(4096:Int)<4097+((vi (zj p) y.1 y.2).length:Int) by omega) o);refine⟨[(1,.box 136 [.val (.slice none 0 0)]),(2,.box 55 [i64 5])],6,zf [0,1,2,3,4,5],λk m hm=>?_,jo (bad oM)⟩;simp only[XZ,XW,or_false,KD]at hm
   obtain⟨_,rfl⟩|⟨_,rfl⟩:=hm <;> rfl
 intro _
 by_cases hc:zfN p pen (kS pen (zL p)).length<=4096
 ·rw[show dS p pen (kS pen (zL p)).length=dM p pen (kS pen (zL p)).length from Xe hc];have et:(kS pen (zL p)).take (kS pen (zL p)).length=kS pen (zL p):=X5;unfold zfN at hc;rw[et]at hc;rw[es,Xc oM];refine zM ((LE_pw _).trans (z0 ?_)) .refl;rw[zvK,et]
 rw[show dS p pen (kS pen (zL p)).length=dB p from Xc hc];exact zBf
def zt8(l:List Pt):CG0 149 [.sl ptE l] [] (pr (∀p∈l,zr p)) []:=by
 refine zc Tryz.func149 ?_;refine⟨Nat,λi=>⟨[(0,.sl ptE l),(3,i64 (i:Int))],[],0,16,0⟩,λi=>i<=l.length/\∀p∈l.take i,zr p,λi=>l.length-i,0,?_,?_,?_⟩
 ·exact⟨Xh _,λp hp=>by cases hp⟩
 ·exact zC []
 rintro i ⟨h1,h2⟩
 intro hl1;refine⟨λg=>?_,λg=>?_⟩
 ·have g:(i:Int)<l.length:=g;refine Ob.o ?_;intro x hx;have hx:l[i]?=some x:=hx;refine zb.t (z9 x)<|⟨λb=>zd λk=>b (k x (Xf hx)),λb=>?_⟩;have b:=Xa.1 b;refine Ar.o<|⟨i+1,⟨oM,λp hp=>?_⟩,zC [],by dsimp only;omega⟩;rw[Xl,hx]at hp
  rcases Xs.1 hp with hp|hp
  ·exact h2 p hp
  simp at hp;rw[hp];exact b
 have g:¬(i:Int)<l.length:=g;rw[Xi oM]at h2;exact zI h2
def zt9(a b:Pt):CG0 219 [.agg (ptE a),.agg (ptE b)] [] (i64 (jd a b)) []:=by
 refine zc Tryz.func219 ?_;exact zb.t (zmj b a)<|zb.t (zxQ (zae b a))<|.refl
def zyW(p:Pl)(hp:p.pts.length<=4096):CG0 218 [.agg (plE p)] [] (.sl ptE (zj p)) []:=by
 refine zc Tryz.func218 ?_;have dl:=jp p;refine zb.t (zi7 p hp)<|⟨Pt,ptE,[],rfl,Ob.o2 ?_⟩;refine⟨Nat,λi=>⟨[(3,.loc 0 0),(4,.own 1),(5,i64 (i:Int))],[(0,.box 143 (plE (zt p))),(1,.arr 28 ptE 2 ((zt p).pts.take i))],2,40,0⟩,λi=>i<=(zt p).pts.length,λi=>(zt p).pts.length-i,0,?_,?_,?_⟩
 ·exact Xh _
 ·exact zf [1,2]
 rintro i hi
 intro hl1;refine⟨λg=>?_,λg=>?_⟩
 ·have g:(i:Int)<(zt p).pts.length:=g;refine Ob.o ?_;intro x hx;have hx:(zt p).pts[i]?=some x:=hx;refine⟨Pt,ptE,[x],rfl,Ob.o0 ?_⟩;refine⟨[x],rfl,Ob.o15 ?_⟩;exact Ar.o<|⟨i+1,oM,zu [0,3] ⟨rfl,Xg (λq=>some (Mem.arr 28 ptE 2 q)) (by rw[Xl,hx];rfl),trivial⟩,by dsimp only;omega⟩
 have g:¬(i:Int)<(zt p).pts.length:=g;have et:(zt p).pts.take i=(zt p).pts:=Xi oM;have no:¬((zt p).cl=true/\2<=(zt p).pts.length)->LE (.sl ptE ((zt p).pts.take i)) (.sl ptE (zj p)):=λh=>z0 (by rw[et,yJ,zoA h])
 refine⟨λc=>?_,λc=>no λh=>c h.1⟩;have c:(zt p).cl=true:=c;intro hl2;refine⟨λn2=>?_,λn2=>no λh=>n2 (show(2:Int)<=(zt p).pts.length by have:=h.2;omega)⟩;have n2:(2:Int)<=(zt p).pts.length:=n2;refine Ob.o ?_;intro x hx;have hx:=qn (show(zt p).pts[0]?=some x from hx);refine⟨Pt,ptE,[x],rfl,Ob.o0 ?_⟩;refine⟨[x],rfl,Ob.o15 ?_⟩;exact z0 (by rw[et,yJ,zgQ c oM,hx])
def zq0(p:Pl)(hp:p.pts.length<=4096)(ok:∀q∈p.pts,zr q):CG0 150 [.agg (plE p)] [] (i64 (zL p)) []:=by
 refine zc Tryz.func150 ?_;have dl:=jp p;have ll:=jD (zt p);rw[←yJ]at ll;refine zb.t (zyW p hp)<|⟨Nat,λi=>⟨[(1,.loc 0 0),(3,i64 (atS (zj p) i)),(4,.sl ptE (zj p)),(5,i64 ((i:Int)+1))],[(0,.box 143 [.sl ptE p.pts,pr (p.cl=true)])],1,32,0⟩,λi=>i<=(zj p).length-1,λi=>(zj p).length-i,0,?_,?_,?_⟩
 ·exact Xh _
 ·exact zf [0]
 rintro i hi
 have ar:=vT (zj p) i;intro hl1;refine⟨λg=>?_,λg=>?_⟩;rotate_left
 ·have g:¬(i:Int)+1<(zj p).length:=g;exact ze (by unfold zL;rw[show i=(zj p).length-1 by omega])
 have g:(i:Int)+1<(zj p).length:=g;refine zb.t (zt8 p.pts)<|⟨λ_=>?_,λh=>absurd ok h⟩;refine Dr.k<|Ar.o<|Ob.o ?_;intro x hx
 have hx:=qn (show(zj p)[i]?=some x by
  have hx:(zj p)[((i:Int)+1-1).toNat]?=some x:=hx
  rwa [show((i:Int)+1-1).toNat=i by omega]at hx)
 refine Ob.o ?_;intro y hy;have hy:=qn (show(zj p)[i+1]?=some y from hy);refine zb.t (zt9 x y) ?_;have pc:=yu x y;(iterate 2 refine Ar.o ?_);exact⟨i+1,oM,zT [0] ⟨rfl,Xg (λq=>some (i64 q)) (by rw[hx,hy];rfl),rfl,Xg (λq=>some (i64 q)) oM,trivial⟩ ⟨rfl,trivial⟩,by dsimp only;omega⟩
def zCB(d:List Int)(hd:uz d):CG0 220 [.sl zV d] [] (.tup [i64 (qB d),i64 (drawn d)]) []:=by
 refine zc Tryz.func220 ?_;obtain⟨d1,d2,d3,d4⟩:=yg hd;refine⟨Nat,λi=>⟨[(0,.sl zV d),(4,i64 (qu d i)),(5,i64 (256*u4 0 d i)),(6,i64 (i:Int))],[],0,32,0⟩,λi=>i<=d.length,λi=>d.length-i,0,?_,?_,?_⟩
 ·exact Xh _
 ·exact zC []
 rintro i hi
 have hpi:=zdZ d1 hi;have hps:=zbD d i hi;have q0:=yf (r:=0) d1 i hi;have q1:=yf (r:=1) d1 i hi;intro hl1;refine⟨λg=>?_,λg=>?_⟩
 ·have g:(i:Int)<d.length:=g;refine Ob.o ?_;intro x hx;have hx:d[i]?=some x:=hx;have hx1:=d1 x (Xf hx);have hx2:=d2 x (Xf hx);(iterate 2 refine Ar.o ?_);refine Dv.pos ⟨oM,dC⟩<|⟨λev=>?_,λev=>?_⟩
  ·have ev:(i:Int)%2=0:=ev;refine Ob.o ?_;intro x' hx';have ex:x'=x:=Xm ((show d[i]?=some x' from hx').symm.trans hx);rw[ex];(iterate 3 refine Ar.o ?_);exact⟨i+1,oM,jh [] ⟨rfl,Xg (λq=>some (i64 q)) (ym hx).symm,Xg (λq=>some (i64 q)) (by rw[zeJ hx oM];omega),rfl,trivial⟩ trivial,by dsimp only;omega⟩
  have ev:¬(i:Int)%2=0:=ev;exact Ar.o<|⟨i+1,oM,jh [] ⟨rfl,Xg (λq=>some (i64 q)) (ym hx).symm,Xg (λq=>some (i64 q)) (by rw[zhW oM]),rfl,trivial⟩ trivial,by dsimp only;omega⟩
 have g:¬(i:Int)<d.length:=g;have ei:i=d.length:=oM;exact zM (ze (by rw[ei,yI])) (ze (by rw[ei];rfl))
def zD7(pen:Pen)(t:Nat)(hk:kC pen)(hper:0<qB pen.d)(ht:(t:Int)<=70368744177664):CG0 221 [.agg (jb pen),i64 (t:Int)] [] (.tup [i64 ((yr pen.d (phD pen t) 0).1:Int),i64 (yr pen.d (phD pen t) 0).2]) []:=by
 refine zc Tryz.func221 ?_;obtain⟨d1,d2,d3,d4⟩:=yg hk.2.2.2.2.1;have hph:=hk.2.2.2.2.2;refine zb.t (zCB pen.d hk.2.2.2.2.1) ?_;have m1:=Kb (256*pen.ph) (show qB pen.d≠0 by omega);have m2:=X3 (256*pen.ph) hper;have m3:=Kb (t:Int) (show qB pen.d≠0 by omega);have m6:=X3 (t:Int) hper;have m4:=Kb ((t:Int)%qB pen.d+256*pen.ph%qB pen.d) (show qB pen.d≠0 by omega);have m5:=X3 ((t:Int)%qB pen.d+256*pen.ph%qB pen.d) hper;refine Dr.k ?_
 refine Dv.pos ⟨oM,oM⟩<|Ar.o<|Dv.pos ⟨oM,oM⟩<|Ar.o<|Dv.pos ⟨oM,oM⟩ ?_;have ek:phD pen t=((t:Int)%qB pen.d+256*pen.ph%qB pen.d)%qB pen.d:=rfl;rw[←ek]at m4 m5;refine⟨Nat,λi=>⟨[(2,.loc 0 0),(8,i64 (phD pen t-qu pen.d i)),(9,i64 (i:Int))],[(0,.box 43 (jb pen))],1,59,0⟩,λi=>i<=pen.d.length/\qu pen.d i<=phD pen t,λi=>pen.d.length-i,0,?_,?_,?_⟩
 ·exact⟨Xh _,by rw[uq];exact m4⟩
 ·exact zT [0] ⟨rfl,Xg (λq=>some (i64 q)) (by rw[uq,Int.sub_zero];exact ek.symm),rfl,trivial⟩ ⟨rfl,trivial⟩
 rintro i ⟨hi,hle⟩
 have hpi:=zdZ d1 hi;intro hl1;refine⟨λg=>?_,λg=>?_⟩
 ·have g:(i:Int)<pen.d.length:=g;refine Ob.o ?_;intro x hx;have hx:pen.d[i]?=some x:=hx;have same:∀y,pen.d[(i:Int).toNat]?=some y->y=x:=λy h=>Xm ((show pen.d[i]?=some y from h).symm.trans hx)
  have hx1:=d1 x (Xf hx);have hx2:=d2 x (Xf hx);have hs:=ym hx;refine Ar.o<|Br.mk (λc=>?_) (λc=>?_)
  ·have c:phD pen t-qu pen.d i<256*x:=c;have hp:=zeD (i0:=0) d1 hx hle oM;refine Dr.k<|Ob.o ?_;intro x' hx';rw[same x' hx'];(iterate 2 refine Ar.o ?_);refine zM (ze ?_) (ze ?_)
   ·rw[hp];show(i:Int)=((0+i:Nat):Int);omega
   rw[hp];dsimp only;omega
  have c:¬phD pen t-qu pen.d i<256*x:=c;refine Ob.o ?_;intro x' hx';rw[same x' hx'];(iterate 3 refine Ar.o ?_);exact⟨i+1,⟨oM,oM⟩,zT [0] ⟨rfl,Xg (λq=>some (i64 q)) (by rw[hs];omega),rfl,trivial⟩ ⟨rfl,trivial⟩,by dsimp only;omega⟩
 have g:¬(i:Int)<pen.d.length:=g;have:qu pen.d i=qB pen.d:=by rw[show i=pen.d.length by omega,yI]
 omega
end Go.Gs
