/- errors.As at the error of a node ('wrong'), by the kit's walk: nil; the error's own type is the target's. -/
import Derived.WalkKit
import Derived.LaidEql
import Derived.Stop.Asserts
import Derived.RowKitTokens
import Derived.Test.YtakicgnbhdpknaaGreatDoorPAO
import Derived.Deep.Slices
import Derived.Deep.Fields
import Derived.ChangeSame
import Derived.Lib.SmallJoins
import Derived.ProofKit
import Derived.OpenShut
import Derived.Carry
set_option maxRecDepth 100000
set_option maxHeartbeats 8000000
set_option linter.all false
namespace Go.Gs
open Proofs.Tryz
open Go.Proofs Go.RowKit Go.Extern.Stop Go.Stop Go.Extern
def zwV(t:Value)(w:World):Calls prog 127 #[.nilIface,t] w λe w'=>e=.returned (.bool false)/\w'=w:=by
 go_enter func127,Tryz.ntmps127
 go_wp2
 go_ret
 exact⟨rfl,rfl⟩
def zqU(t:Addr)(w:World):(ReflectliteValue.unpack (.iface 157 (.pointer (some t)))).run prog w
  =.ok (.agg #[.pointer (some ⟨3,157,none⟩),.pointer (some ⟨w.heap.size,0,none⟩),.int .u64 150]) (w.alloc (.cells #[.pointer (some t)] 157)):=by kernel_rfl
def zze(a:Addr)(w:World):(ReflectliteValue.methodAny (ReflectliteValue.valueError "reflectlite.Value.Type" 0) (λt _ _ _=>ReflectliteType.toType t) #[.agg #[.pointer (some ⟨3,157,none⟩),.pointer (some a),.int .u64 150]]).run prog w
  =.ok (.iface 288 (.agg #[.pointer (some ⟨3,157,none⟩)])) w:=by kernel_rfl
def zmN(h:Value)(w:World):(Go.method 552 288 (.agg #[h]) "Kind").run prog w=.ok (513,h) w:=by kernel_rfl
def zzf(w:World):((ReflectliteType.abiMethod λt=>(λa:Nat=>Value.int IntKind.u8 (a:Int)) <$> Rtype.kind t) #[.pointer (some ⟨3,157,none⟩)]).run prog w=.ok (.int .u8 22) w:=by kernel_rfl
def zzg(w:World):((ReflectliteType.abiMethod λt=>(λa:Nat=>Value.int IntKind.u8 (a:Int)) <$> Rtype.kind t) #[.pointer (some ⟨3,155,none⟩)]).run prog w=.ok (.int .u8 25) w:=by kernel_rfl
def zzh(z:Sem Value)(f:TypeId->Addr->Nat->Nat->Sem Value)(v:Value):
  ReflectliteValue.method z f #[v]=(do match ←ReflectliteValue.parts v with|none=>z|some (t,a,fl)=>f t a fl (fl%32)):=rfl
def znk(a:Addr)(w:World):(ReflectliteValue.parts (.agg #[.pointer (some ⟨3,157,none⟩),.pointer (some a),.int .u64 150])).run prog w=.ok (some (157,a,150)) w:=by kernel_rfl
def zwW(a p:Addr)(W:World)(b:W.cell? a=some (.pointer (some p))):
  (ReflectliteValue.method (ReflectliteValue.valueError "reflectlite.Value.IsNil" 0) ReflectliteValue.isNil #[.agg #[.pointer (some ⟨3,157,none⟩),.pointer (some a),.int .u64 150]]).run prog W=.ok (.bool false) W:=by
 rw[zzh];simp only[Sem.run_bind,znk,Result.andThen];simp[ReflectliteValue.isNil,loadVar,isAgg,underlying,Tryz.underlying157,b,Result.andThen]
def zmO(h:Value)(w:World):(Go.method 552 288 (.agg #[h]) "Elem").run prog w=.ok (524,.agg #[h]) w:=by kernel_rfl
def zfs(h:Value)(w:World):(Go.method 552 288 (.agg #[h]) "Implements").run prog w=.ok (525,.agg #[h]) w:=by kernel_rfl
def zdG(h:Value)(w:World):(Go.method 552 288 (.agg #[h]) "AssignableTo").run prog w=.ok (522,.agg #[h]) w:=by kernel_rfl
def zzi(w:World):(ReflectliteType.method ReflectliteType.elem #[.agg #[.pointer (some ⟨3,157,none⟩)]]).run prog w=.ok (.iface 288 (.agg #[.pointer (some ⟨3,155,none⟩)])) w:=by kernel_rfl
def zkR(w:World):(ReflectliteType.relation "Implements" ReflectliteType.implements_ #[.agg #[.pointer (some ⟨3,155,none⟩)],.iface 288 (.agg #[.pointer (some ⟨3,152,none⟩)])]).run prog w=.ok (.bool true) w:=by kernel_rfl
def zty(v:Value)(w:World):(ReflectliteType.typeOf #[.iface 155 v]).run prog w=.ok (.iface 288 (.agg #[.pointer (some ⟨3,155,none⟩)])) w:=by kernel_rfl
def zkS(w:World):(ReflectliteType.relation "AssignableTo" ReflectliteType.assignableTo #[.agg #[.pointer (some ⟨3,155,none⟩)],.iface 288 (.agg #[.pointer (some ⟨3,155,none⟩)])]).run prog w=.ok (.bool true) w:=by kernel_rfl
def zqV(c u:Value)(w:World):(ReflectliteValue.unpack (.iface 155 (.agg #[c,u]))).run prog w
  =.ok (.agg #[.pointer (some ⟨3,155,none⟩),.pointer (some ⟨w.heap.size,0,none⟩),.int .u64 153]) (w.alloc (.cells #[c,u] 155)):=by kernel_rfl
def ztz(w:World):(Rtype.elem? 157).run prog w=.ok (some 155) w:=by kernel_rfl
def zFJ(p:Addr)(w:World):(ReflectliteValue.mk 155 p ReflectliteValue.flagAddr).run prog w=.ok (.agg #[.pointer (some ⟨3,155,none⟩),.pointer (some p),.int .u64 409]) w:=by kernel_rfl
def zwX(a p:Addr)(W:World)(b:W.cell? a=some (.pointer (some p))):
  (ReflectliteValue.method (ReflectliteValue.valueError "reflectlite.Value.Elem" 0) ReflectliteValue.elem #[.agg #[.pointer (some ⟨3,157,none⟩),.pointer (some a),.int .u64 150]]).run prog W
   =.ok (.agg #[.pointer (some ⟨3,155,none⟩),.pointer (some p),.int .u64 409]) W:=by
 rw[zzh];simp only[Sem.run_bind,znk,Result.andThen];simp[ReflectliteValue.elem,loadVar,isAgg,underlying,Tryz.underlying157,b,Result.andThen,ztz,zFJ]
def zFK(v x:Value):ReflectliteValue.set #[v,x]=(do
  let (some (dst,a,fl),some (src,b,_)):=(←ReflectliteValue.parts v,←ReflectliteValue.parts x)
   |unsupported (.noEntry "extern/(internal/reflectlite.Value).Set.zeroValue")
  if fl/ReflectliteValue.flagAddr%2==0 then unsupported (.noEntry "extern/(internal/reflectlite.Value).Set.unaddressable")
  let val ←loadVar src b
  if ←Rtype.directlyAssignable dst src then storeVar dst a val
  else if ←Rtype.implements dst src then
   if (←Rtype.kind src)==20 then
    match val with
    |.nilIface=>unsupported (.noEntry "extern/reflectlite: a nil value of one interface type handed on as a value of another")
    |_=>storeVar dst a val
   else storeVar dst a (.iface src val)
  else panicString ("reflectlite.Set: value of type " ++(←Rtype.spelt src)++ " is not assignable to type " ++(←Rtype.spelt dst))
  pure (.tuple #[])):=rfl
def ztA(a:Addr)(w:World):(ReflectliteValue.parts (.agg #[.pointer (some ⟨3,155,none⟩),.pointer (some a),.int .u64 409])).run prog w=.ok (some (155,a,409)) w:=by kernel_rfl
def zwY(a:Addr)(w:World):(ReflectliteValue.parts (.agg #[.pointer (some ⟨3,155,none⟩),.pointer (some a),.int .u64 153])).run prog w=.ok (some (155,a,153)) w:=by kernel_rfl
def ztB(w:World):(Rtype.directlyAssignable 155 155).run prog w=.ok true w:=by kernel_rfl
def zqW:∃i,ti tt 155=some i/\i.sz=2/\i.kind.agg=true:=⟨_,rfl,rfl,rfl⟩
def zzj(c u:Value)(s:Nat)(W:World)(h:W.heap[s]?=some (.cells #[c,u] 155 (0,0))):
  (loadVar 155 ⟨s,0,none⟩).run prog W=.ok (.agg #[c,u]) W:=by
 obtain⟨i,hi,e,d⟩:=zqW;have hT:=tok _ i hi
 have b:=run_loadCells_list (P:=prog) W ⟨s,0,none⟩ [c,u] (λj v a=>by
  rw[ye]
  match j,a with
  |0,a=>cases a;simp[World.cell?,h]
  |1,a=>cases a;simp[World.cell?,h]
  |j+2,a=>simp at a)
 unfold loadVar;rw[Sem.run_bind,hT.agg W,Result.andThen_ok,d];simp only[if_true,Sem.run_bind,hT.size,Result.andThen_ok,e];simp at b;simp[b]
def zwZ(c u:Value)(b:Nat)(a:Array Value)(W:World)(f:a.size=2)(h:W.heap[b]?=some (.cells a 155 (0,0)))(g:c.oneCell'=true)(j:u.oneCell'=true):
  (storeVar 155 ⟨b,0,none⟩ (.agg #[c,u])).run prog W=.ok () (W.setRow b #[c,u]):=by
 obtain⟨i,hi,e,k⟩:=zqW
 have:=vw (tok _ i hi) (v:=.agg #[c,u]) (off:=0) h (by rw[e];rfl) (by rw[e,f];decide) (λx d=>by
  have d:x∈[c,u]:=d;simp only[XH,XV,or_false]at d
  rcases d with rfl|rfl <;> assumption)
 rw[this,KD (by simp[e,f]:a.toList.length<=0+i.sz),J4,QF,XC];rfl
def zCV(b s:Nat)(c u:Value)(a:Array Value)(W:World)(h:W.heap[s]?=some (.cells #[c,u] 155 (0,0)))(g:a.size=2)(f:W.heap[b]?=some (.cells a 155 (0,0)))(d:c.oneCell'=true)(e:u.oneCell'=true):
  (ReflectliteValue.set #[.agg #[.pointer (some ⟨3,155,none⟩),.pointer (some ⟨b,0,none⟩),.int .u64 409],.agg #[.pointer (some ⟨3,155,none⟩),.pointer (some ⟨s,0,none⟩),.int .u64 153]]).run prog W
   =.ok (.tuple #[]) (W.setRow b #[c,u]):=by
 rw[zFK];simp only[Sem.run_bind,ztA,zwY,Result.andThen];simp[ReflectliteValue.flagAddr,zzj c u s W h,ztB,zwZ c u b a W g f d e,Result.andThen]
def zw0(b:Nat)(c u:Value)(a:Array Value)(w:World)(g:w.cell? ⟨0,0,none⟩=some (.iface 288 (.agg #[.pointer (some ⟨3,152,none⟩)])))(k:a.size=2)(d:w.heap[b]?=some (.cells a 155 (0,0)))(i:c.oneCell'=true)(j:u.oneCell'=true):
  Calls prog 127 #[.iface 155 (.agg #[c,u]),.iface 157 (.pointer (some ⟨b,0,none⟩))] w λev w'=>ev=.returned (.bool true)/\w'=((((w.alloc (.cells #[.pointer (some ⟨b,0,none⟩)] 157)).alloc (.cells #[.pointer (some ⟨3,157,none⟩),.pointer (some ⟨w.heap.size,0,none⟩),.int .u64 150] 215)).alloc (.cells #[.pointer (some ⟨3,157,none⟩),.pointer (some ⟨w.heap.size,0,none⟩),.int .u64 150] 215)).alloc (.cells #[c,u] 155)).setRow b #[c,u]:=by
 have hV:=@run_callFunc_extern prog 191 _ (λargs=>ReflectliteValue.unpack (args.getD 0 (.tuple #[]))) func191 (by kernel_rfl) (by kernel_rfl) (by kernel_rfl) (by kernel_rfl);have hTy:=@run_callFunc_extern prog 192 _ (ReflectliteValue.methodAny (ReflectliteValue.valueError "reflectlite.Value.Type" 0) (λt _ _ _=>ReflectliteType.toType t)) func192 (by kernel_rfl) (by kernel_rfl) (by kernel_rfl) (by kernel_rfl)
 have hN:=@run_callFunc_extern prog 193 _ (ReflectliteValue.method (ReflectliteValue.valueError "reflectlite.Value.IsNil" 0) ReflectliteValue.isNil) func193 (by kernel_rfl) (by kernel_rfl) (by kernel_rfl) (by kernel_rfl);have hK:=@run_callFunc_extern prog 513 _ (ReflectliteType.abiMethod λt=>do pure (.int .u8 (←Rtype.kind t))) func513 (by kernel_rfl) (by kernel_rfl) (by kernel_rfl) (by kernel_rfl)
 have hE:=@run_callFunc_extern prog 524 _ (ReflectliteType.method ReflectliteType.elem) func524 (by kernel_rfl) (by kernel_rfl) (by kernel_rfl) (by kernel_rfl);have hI:=@run_callFunc_extern prog 525 _ (ReflectliteType.relation "Implements" ReflectliteType.implements_) func525 (by kernel_rfl) (by kernel_rfl) (by kernel_rfl) (by kernel_rfl);have hO:=@run_callFunc_extern prog 271 _ ReflectliteType.typeOf func271 (by kernel_rfl) (by kernel_rfl) (by kernel_rfl) (by kernel_rfl)
 have hA:=@run_callFunc_extern prog 522 _ (ReflectliteType.relation "AssignableTo" ReflectliteType.assignableTo) func522 (by kernel_rfl) (by kernel_rfl) (by kernel_rfl) (by kernel_rfl);have hEl:=@run_callFunc_extern prog 272 _ (ReflectliteValue.method (ReflectliteValue.valueError "reflectlite.Value.Elem" 0) ReflectliteValue.elem) func272 (by kernel_rfl) (by kernel_rfl) (by kernel_rfl) (by kernel_rfl);have hS:=@run_callFunc_extern prog 273 _ ReflectliteValue.set func273 (by kernel_rfl) (by kernel_rfl) (by kernel_rfl) (by kernel_rfl);have tO:=zty
 have mA:=zdG;have aW:=zkS;have vW:=zqV;have m:=zqU;have n:=zze;have mK:=zmN;have mE:=zmO;have mI:=zfs;have kP:=zzf;have kW:=zzg;have eP:=zzi;have iW:=zkR;have o:=zwW ⟨w.heap.size,0,none⟩ ⟨b,0,none⟩ ((w.alloc (.cells #[.pointer (some ⟨b,0,none⟩)] 157)).alloc (.cells #[.pointer (some ⟨3,157,none⟩),.pointer (some ⟨w.heap.size,0,none⟩),.int .u64 150] 215)) sI;have e:0<w.heap.size:=zkh g
 have l:((w.alloc (.cells #[.pointer (some ⟨b,0,none⟩)] 157)).alloc (.cells #[.pointer (some ⟨3,157,none⟩),.pointer (some ⟨w.heap.size,0,none⟩),.int .u64 150] 215)).cell? ⟨0,0,none⟩=some (.iface 288 (.agg #[.pointer (some ⟨3,152,none⟩)])):=by
  rw[World.cell?_alloc_lt _ _ ⟨0,0,none⟩ (by first|(simp;done)|(simp;omega)),World.cell?_alloc_lt _ _ ⟨0,0,none⟩ e];exact g
 have f:b<w.heap.size:=by
  rcases Kc b w.heap.size with h|h
  .exact h
  rw[K3 h]at d;cases d
 have el:=zwX ⟨w.heap.size,0,none⟩ ⟨b,0,none⟩ (((w.alloc (.cells #[.pointer (some ⟨b,0,none⟩)] 157)).alloc (.cells #[.pointer (some ⟨3,157,none⟩),.pointer (some ⟨w.heap.size,0,none⟩),.int .u64 150] 215)).alloc (.cells #[.pointer (some ⟨3,157,none⟩),.pointer (some ⟨w.heap.size,0,none⟩),.int .u64 150] 215)) (by rw[World.cell?_alloc_lt _ _ ⟨w.heap.size,0,none⟩ (by first|(simp;done)|(simp;omega))];simp)
 have st:=zCV b (w.heap.size+1+1+1) c u a ((((w.alloc (.cells #[.pointer (some ⟨b,0,none⟩)] 157)).alloc (.cells #[.pointer (some ⟨3,157,none⟩),.pointer (some ⟨w.heap.size,0,none⟩),.int .u64 150] 215)).alloc (.cells #[.pointer (some ⟨3,157,none⟩),.pointer (some ⟨w.heap.size,0,none⟩),.int .u64 150] 215)).alloc (.cells #[c,u] 155))
  (by have:=heap_alloc_new (((w.alloc (.cells #[.pointer (some ⟨b,0,none⟩)] 157)).alloc (.cells #[.pointer (some ⟨3,157,none⟩),.pointer (some ⟨w.heap.size,0,none⟩),.int .u64 150] 215)).alloc (.cells #[.pointer (some ⟨3,157,none⟩),.pointer (some ⟨w.heap.size,0,none⟩),.int .u64 150] 215)) (.cells #[c,u] 155);simpa using this) k
  (by rw[heap_alloc_old _ _ (by first|(simp;done)|(simp;omega)),heap_alloc_old _ _ (by first|(simp;done)|(simp;omega)),heap_alloc_old _ _ (by first|(simp;done)|(simp;omega)),heap_alloc_old _ _ f];exact d) i j
 go_enter func127,Tryz.ntmps127
 go_wp2
 refine wp_loop_rounds 1 ?_;rw[rounds_succ]
 go_wp2
 go_ret
 exact⟨rfl,rfl⟩
open Go.Proofs
inductive Er
 |nil
 |w (c:Int) (u:Er)
def erV:Er->Value
 |.nil=>.nilIface
 |.w c u=>.iface 155 (.agg #[.int .i64 c,erV u])
def er_if(e:Er):ifB (erV e)=true:=by cases e <;> rfl
def zzm(e:Er):(erV e).oneCell'=true:=by cases e <;> rfl
def zzn(e:Er):LR:=[.op (erV e)]
def LE_er{c:Int}{u:Er}:LE (.ifc 155 (.agg [i64 c,.op (erV u)])) (.op (erV (.w c u))):=λS Pm O w v i=>by
 obtain⟨x,rfl,k⟩:=i.ifc_inv;obtain⟨vs,rfl,f⟩:=k.agg_inv;obtain⟨a,r,rfl,g,j⟩:=f.cons_inv;obtain⟨b,l,rfl,h,e⟩:=j.cons_inv;rw[e.nil_inv,g.val_inv,h.op_inv.1];exact .d _ _ (.op _ rfl)
def zFL{c:Int}:LE (.ifc 155 (.agg [i64 c,.val .nilIface])) (.op (erV (.w c .nil))):=λS Pm O w v i=>by
 obtain⟨x,rfl,k⟩:=i.ifc_inv;obtain⟨vs,rfl,f⟩:=k.agg_inv;obtain⟨a,r,rfl,g,j⟩:=f.cons_inv;obtain⟨b,l,rfl,h,e⟩:=j.cons_inv;rw[e.nil_inv,g.val_inv,h.val_inv];exact .d _ _ (.op _ rfl)
def k8(p:Prop)[Decidable p](c:Int):Er:=if p then .w c .nil else .nil
def zbw:List Er->Er
 |[]=>.nil
 |.nil::r=>zbw r
 |.w c u::_=>.w 0 (.w c u)
def zkT:∀{l:List Er},(∀e∈l,e=.nil)->zbw l=.nil
 |[],_=>rfl
 |.nil::r,h=>zkT (l:=r) λe a=>h e (.tail _ a)
 |.w c u::_,h=>by cases h _ (.head _)
def zkU:∀{l:List Er} {i:Nat} {c:Int} {u:Er},(∀e∈l.take i,e=.nil)->l[i]?=some (.w c u)->zbw l=.w 0 (.w c u)
 |[],i,c,u,_,a=>by simp at a
 |e::r,0,c,u,_,a=>by simp at a;subst a;rfl
 |e::r,i+1,c,u,h,a=>by
  have b:e=.nil:=h e (by rw[Kt];exact .head _);subst b;exact zkU (l:=r) (i:=i) (λe b=>h e (by rw[Kt];exact .tail _ b)) (by simpa using a)
def yC(p:Prop)[Decidable p](c:Int):CX 183 [pr p,i64 c] (.op (erV (k8 p c))):=by
 refine zc func183<|Br.mk (λh=>?_) (λh=>?_)
 .rw[k8,Xc h];exact zuZ rfl
 rw[k8,Xe (Xa.1 h)];exact zFL
def zo2(l:List Er):CX 182 [.sl zzn l] (.op (erV (zbw l))):=by
 refine zc func182 λj=>?_;refine⟨Nat,λi=>⟨[(7,i64 i),(6,i64 l.length),(5,.sl zzn l)],[],0,17,0⟩,λi=>i<=l.length/\∀e∈l.take i,e=.nil,λi=>l.length-i,0,⟨Xh _,λt ht=>by cases ht⟩,zC [],?_⟩
 rintro i ⟨f,b⟩
 refine⟨λg:(i:Int)<l.length=>?_,λg:¬(i:Int)<l.length=>?_⟩
 .refine wb λx(d:l[i]?=some x)=>?_;refine⟨λh=>?_,λh=>?_⟩
  .cases x with
   |nil=>exact absurd rfl h
   |w c u=>rw[zkU b d];exact LE_er
  cases x with
  |w c u=>exact absurd (λh=>by cases h) h
  |nil=>
   refine wa<|⟨i+1,⟨oM,λe a=>?_⟩,zC [],oN⟩;rw[Xm,d]at a
   rcases Xt.1 a with a|a
   .exact b e a
   simpa using a
 rw[Xi oM]at b;rw[zkT b];exact zuZ rfl
def glE:GL 0 (.iface 288 (.agg #[.pointer (some ⟨3,152,none⟩)])):=.head _
def zjg:zdM prog 127:=⟨_,func127,rfl,rfl⟩
def zqX(x y:SV):CG0 127 [.op (erV .nil),.ifc 157 (.loc 0 0)] [(0,.box 155 [x,y])] (bl false) [(0,.box 155 [x,y])]:=by
 refine⟨zjg,λKeep O w vs _ h hρ g=>?_⟩;obtain⟨a,r,rfl,f,i⟩:=g.cons_inv;obtain⟨b,k,rfl,j,c⟩:=i.cons_inv;obtain rfl:=c.nil_inv;obtain rfl:=f.op_inv.1;refine(zwV b w).mono ?_
 rintro e w' ⟨rfl,rfl⟩
 exact⟨_,O,rfl,.refl,h,.d _ _ (.val _)⟩
def zJ.more{Keep:LI}{M:LT}{O:zh}{w:World}(d:zJ Keep M O w)(c:Array Value)(t:TypeId):Stp (Own M O) (Own M O) O O w (w.alloc (.cells c t))/\zJ Keep M O (w.alloc (.cells c t)):=
 d.same rfl rfl (.cells _ _ _) sI (λb a=>heap_alloc_old w _ a)
def zqY(c:Int)(u:Er)(x y:SV):CG0 127 [.op (erV (.w c u)),.ifc 157 (.loc 0 0)] [(0,.box 155 [x,y])] (bl true) [(0,.box 155 [i64 c,.op (erV u)])]:=by
 refine⟨zjg,λKeep O w vs _ m hρ B=>?_⟩;obtain⟨a,r,rfl,z,D⟩:=B.cons_inv;obtain⟨b,R,rfl,A,n⟩:=D.cons_inv;obtain rfl:=n.nil_inv;obtain rfl:=z.op_inv.1;obtain⟨p,rfl,C⟩:=A.ifc_inv;obtain⟨k,i,rfl⟩:=C.loc_inv;obtain⟨N,q,hρ0,hheap,f,hone,h⟩:=m.rel 0 _ (.head _);rw[i]at hρ0;cases hρ0
 refine(zw0 k (.int .i64 c) (erV u) q.toArray w (m.glc glE) (by simp[f]) hheap rfl (zzm u)).mono ?_
 rintro e w' ⟨rfl,rfl⟩
 obtain⟨I,E⟩:=m.more #[.pointer (some ⟨k,0,none⟩)] 157;obtain⟨J,F⟩:=E.more #[.pointer (some ⟨3,157,none⟩),.pointer (some ⟨w.heap.size,0,none⟩),.int .u64 150] 215;obtain⟨K,G⟩:=F.more #[.pointer (some ⟨3,157,none⟩),.pointer (some ⟨w.heap.size,0,none⟩),.int .u64 150] 215;obtain⟨L,o⟩:=G.more #[.int .i64 c,erV u] 155;obtain⟨Q,t,hρ2,hheap2,hlen2,_,_⟩:=o.rel 0 _ (.head _);rw[i]at hρ2;cases hρ2
 obtain⟨M,H⟩:=o.write (.box 155 [i64 c,.op (erV u)]) (.head _) i rfl #[.int .i64 c,erV u] λl=>
  ⟨k,[.int .i64 c,erV u],i,by simpa using setRow_heap _ k _ _ 155 _ hheap2,rfl,λv g=>by
   simp only[XH,XV,or_false]at g
   rcases g with rfl|rfl
   .rfl
   .exact zzm u,λj s v l g=>by
   match j with
   |0=>cases l;cases g;exact .d _ _ (.val _)
   |1=>cases l;cases g;exact .d _ _ (.op _ (er_if u))
   |j+2=>simp at l⟩
 exact⟨_,O,rfl,(((I.trans J).trans K).trans L).trans M,H,.d _ _ (.val _)⟩
end Go.Gs
namespace Go.Gs
open Go.ChangeShapes Go.WideShapes Go.Deep Go.Joins Go.RowKit
section
variable{Vb:Type}{enc:TypeId×Value->Vb}{P:Program}{w:World}{base:Nat}{held:Bool}
end
def args_stay{Vb:Type}{enc:TypeId×Value->Vb}{P:Program}(m:laidOutB P=true){W W':World}(l:Below W.heap.size W W'){sp:Nat->Bool}:
  ∀{ts:List TypeId} {vs:LA} {i:List (DataW Vb)} {c:List MemPlace},(ts.all λt=>P.readableRec t&&decide (t<P.types.size))=true->
   DataW.TrodAll enc P W 0 (λ_=>true) true ts vs i c->(∀p∈c,p.block<W.heap.size)->(∀p∈c,sp p.block=true)->DataW.TrodAll enc P W' 0 sp true ts vs i c
 |[],[],[],_,_,h,_,_=>h
 |t::ts,v::vs,d::i,c,b,⟨p,q,n,o,e⟩,f,g=>by
  simp only[YN,XE,decide_eq_true_eq]at b;have j:∀x∈p,x∈c:=λx a=>by rw[e];exact KZ _ a
  have k:∀x∈q,x∈c:=λx a=>by rw[e];exact KS _ a
  refine⟨p,q,WideElems.Trod_stays m b.1.1 b.1.2 n (λx a=>l.same (f x (j x a))) (λx a=>g x (j x a)),args_stay m l (by simpa using b.2) o (λx a=>f x (k x a)) (λx a=>g x (k x a)),e⟩
end Go.Gs
namespace Go.Gs
open Go.ChangeShapes Go.WideShapes Go.Deep Go.Joins Go.RowKit
section
inductive Sh
 |int (k:IntKind)
 |bool
 |sl (e:Sh)
 |st (fs:Sh)
 |ar (es:Sh)
 |nil
 |cons (f r:Sh)
def Sh.T:Sh->Type
 |.int _=>Int
 |.bool=>Bool
 |.sl e=>List e.T
 |.st fs=>fs.T
 |.ar a=>a.T
 |.nil=>Unit
 |.cons f r=>f.T×r.T
def Sh.dflt:(s:Sh)->s.T
 |.int _=>(0:Int)
 |.bool=>false
 |.sl _=>[]
 |.st fs=>fs.dflt
 |.ar a=>a.dflt
 |.nil=>()
 |.cons f r=>(f.dflt,r.dflt)
def Sh.n:Sh->Nat
 |.int _=>1
 |.bool=>1
 |.sl _=>1
 |.st fs=>fs.n
 |.ar a=>a.n
 |.nil=>0
 |.cons f r=>f.n+r.n
def Sh.enc:(s:Sh)->s.T->LR
 |.int k,n=>[.val (.int k n)]
 |.bool,b=>[.pr (@Eq Bool b true) (instDecidableEqBool b true)]
 |.sl e,xs=>[.sl e.enc xs]
 |.st fs,x=>fs.enc x
 |.ar a,x=>a.enc x
 |.nil,_=>[]
 |.cons f r,x=>f.enc x.1++r.enc x.2
def Sh.wf:(s:Sh)->s.T->Prop
 |.int k,n=>(Lit.int k n).wf=true
 |.bool,_=>True
 |.sl e,xs=>∀x:e.T,@Membership.mem e.T (List e.T) _ xs x->e.wf x
 |.st fs,x=>fs.wf x
 |.ar a,x=>a.wf x
 |.nil,_=>True
 |.cons f r,x=>f.wf x.1/\r.wf x.2
def Sh.fit(P:Program):Sh->(TypeId->Bool)×(List Field->Nat->Bool)×(Nat->TypeId->Bool)
 |.int k=>(λt=>match P.underlying t with
  |some (.int b)=>zs9 k b&&Nat.beq (P.cellsOf t) 1
  |_=>false,λ_ _=>false,λ_ _=>false)
 |.bool=>(λt=>match P.underlying t with
  |some .bool=>Nat.beq (P.cellsOf t) 1
  |_=>false,λ_ _=>false,λ_ _=>false)
 |.sl e=>(λt=>match P.underlying t with
  |some (.slice u)=>(e.fit P).1 u&&Nat.beq (P.cellsOf t) 1&&Nat.blt 0 e.n
  |_=>false,λ_ _=>false,λ_ _=>false)
 |.st fs=>(λt=>match P.underlying t with
  |some (.struct gs)=>(fs.fit P).2.1 gs.toList 0&&Nat.beq (P.cellsOf t) fs.n
  |_=>false,λ_ _=>false,λ_ _=>false)
 |.ar a=>(λt=>match P.underlying t with
  |some (.array n u)=>(a.fit P).2.2 n u&&Nat.beq (P.cellsOf t) a.n
  |_=>false,λ_ _=>false,λ_ _=>false)
 |.nil=>(λ_=>false,λgs _=>match gs with
  |[]=>true
  |_=>false,λn _=>match n with
  |0=>true
  |_=>false)
 |.cons f r=>(λ_=>false,λgs off=>match gs with
  |[]=>false
  |g::gs=>Nat.beq g.offset off&&(f.fit P).1 g.type&&(r.fit P).2.1 gs (off+f.n),λn u=>match n with
  |0=>false
  |n+1=>(f.fit P).1 u&&(r.fit P).2.2 n u)
def Sh.enc_len:∀(s:Sh) (x:s.T),(s.enc x).length=s.n
 |.int _,_=>rfl
 |.bool,_=>rfl
 |.sl _,_=>rfl
 |.st fs,x=>Sh.enc_len fs x
 |.ar a,x=>Sh.enc_len a x
 |.nil,_=>rfl
 |.cons f r,x=>by
  show(f.enc x.1++r.enc x.2).length=f.n+r.n;rw[Xq,Sh.enc_len f,Sh.enc_len r]
def Dc(S:LI)(w:World)(a:LR)(vs:LA):Prop:=
 vs.length=a.length/\∀(j:Nat) (s:SV) (v:Value),a[j]?=some s->vs[j]?=some v->D S w s v/\v.oneCell'=true
variable{S:LI}
def Dc.nil{w:World}:Dc S w [] []:=⟨rfl,λj s v h=>by simp at h⟩
def Dc.append{w:World}{c d:LR}{vs us:LA}(h:Dc S w c vs)(k:Dc S w d us):Dc S w (c++d) (vs++us):=by
 refine⟨by rw[Xq,Xq,h.1,k.1],λj s v a b=>?_⟩
 by_cases e:j<c.length
 .rw[XL e]at a;rw[XL (by rw[h.1];exact e)]at b;exact h.2 j s v a b
 rw[XF oM]at a;rw[XF (by rw[h.1];omega),h.1]at b;exact k.2 _ s v a b
def Dc.one{w:World}{s:SV}{v:Value}(h:D S w s v)(c:v.oneCell'=true):Dc S w [s] [v]:=⟨rfl,λj s' d a b=>by
 match j with
 |0=>simp at a b;subst a;subst b;exact⟨h,c⟩
 |j+1=>simp at a⟩
end
section
variable{Vb:Type}{enc:TypeId×Value->Vb}{P:Program}{W:World}{held:Bool}
def zlR(L:LA)(off a b:Nat):(L.drop off).take (a+b)=(L.drop off).take a++(L.drop (off+a)).take b:=by
 rw[List.take_add,J1]
def zDG:∀s:Sh,
  ((∀(t:TypeId) (fuel:Nat) (L:LA) (x:DataW Vb×List MemPlace),(s.fit P).1 t=true->DataW.trod enc P W 0 (λ_=>true) held fuel t L=some x->
   P.cellsOf t=s.n/\L.length=s.n/\∃y:s.T,s.wf y/\∀S:LI,(∀b,¬S b)->Dc S W (s.enc y) L))/\
  (∀(gs:List Field) (off m:Nat) (L:LA),(s.fit P).2.1 gs off=true->(∀g∈gs,∃x,DataW.trod enc P W 0 (λ_=>true) held m g.type ((L.drop g.offset).take (P.cellsOf g.type))=some x)->
   ∃y:s.T,s.wf y/\∀S:LI,(∀b,¬S b)->Dc S W (s.enc y) ((L.drop off).take s.n))/\
  (∀(n i m:Nat) (u:TypeId) (L:LA),(s.fit P).2.2 n u=true->(∀j,j<n->∃x,DataW.trod enc P W 0 (λ_=>true) held m u ((L.drop ((i+j)*P.cellsOf u)).take (P.cellsOf u))=some x)->
   ∃y:s.T,s.wf y/\∀S:LI,(∀b,¬S b)->Dc S W (s.enc y) ((L.drop (i*P.cellsOf u)).take s.n)):=by
 intro s
 induction s with
 |int k=>
  refine⟨λt fuel L x c h=>?_,λ_ _ _ _ c _=>(by cases c),λ_ _ _ _ _ c _=>(by cases c)⟩;unfold Sh.fit at c;dsimp only at c
  split at c
  .rename_i k' J;simp only[XE]at c;obtain⟨U,G⟩:=c;have U:=zgA U;subst U;obtain⟨q,rfl,_,hw⟩:=DataW.trod_int J h;exact⟨Xk G,rfl,q,hw,λS _=>.one (.val _) rfl⟩
  cases c
 |bool=>
  refine⟨λt fuel L x c h=>?_,λ_ _ _ _ c _=>(by cases c),λ_ _ _ _ _ c _=>(by cases c)⟩;unfold Sh.fit at c;dsimp only at c
  split at c
  .rename_i J;obtain⟨b,rfl,_⟩:=DataW.trod_bool J h;refine⟨Xk c,rfl,b,tV,λS _=>.one ?_ rfl⟩;have:=D.pr (S:=S) (w:=W) (b=true) inferInstance
   rwa [show decide (b=true)=b by cases b <;> rfl]at this
  cases c
 |sl e ih=>
  refine⟨λt fuel L x c h=>?_,λ_ _ _ _ c _=>(by cases c),λ_ _ _ _ _ c _=>(by cases c)⟩;unfold Sh.fit at c;dsimp only at c
  split at c
  .rename_i u J;simp only[XE]at c;obtain⟨⟨N,G⟩,hpos⟩:=c;have hpos:0<e.n:=by simpa using hpos
   refine⟨Xk G,?_⟩
   obtain⟨rfl,_⟩|⟨a,len,cap,m,n,Df,Pl,rfl,_,V,hm,hmm,_,hi⟩:=open_slice J h
   .exact⟨rfl,([]:List e.T),λx C=>(by cases C),λS _=>.one (.nil _ _) rfl⟩
   have hmc:m=cap:=by simpa using hmm
   subst hmc;refine⟨rfl,?_⟩
   have key:∀i,i<m->∃d,P.cellsOf u=e.n/\W.cells? 0 (a.add (i*e.n)) e.n=some d/\∃y:e.T,e.wf y/\∀S:LI,(∀b,¬S b)->Dc S W (e.enc y) d:=λi l=>by
    obtain⟨d,B,A⟩:=hi i l;obtain⟨M,g2,g3⟩:=ih.1 u n d _ N A;rw[M]at B;exact⟨d,M,B,g3⟩
   by_cases h0:m=0
   .subst h0;have:len=0:=oM;subst this;exact⟨([]:List e.T),λx C=>(by cases C),λS _=>.one (.nil _ _) rfl⟩
   have hspot:a.spot=none/\a.block<W.heap.size:=by
    obtain⟨d,_,B,_⟩:=key 0 oM;obtain⟨_,_,O⟩:=World.cells?_some B;have A:=O 0 hpos;have Z:d.length=e.n:=by obtain⟨_,V,_⟩:=World.cells?_some B;exact V
    rw[Xb oM,Jw]at A;have:(a.add 0).add 0=a:=by unfold Addr.add;simp
    rw[this]at A;unfold World.cell? at A
    split at A
    .rename_i hb
     split at A
     .cases A
     rename_i H;refine⟨by simpa using H,(X3.1 hb).1⟩
    cases A
   obtain⟨b,o,sp⟩:=a;obtain⟨H,hb⟩:=hspot;have H:sp=none:=H;subst H
   haveI:Inhabited e.T:=⟨e.dflt⟩
   obtain⟨F,hF⟩:=choose_lt (α:=e.T) (n:=m) (p:=λi y=>∃d,W.cells? 0 (Addr.add ⟨b,o,none⟩ (i*e.n)) e.n=some d/\e.wf y/\∀S:LI,(∀b,¬S b)->Dc S W (e.enc y) d) (λi l=>by
    obtain⟨d,_,B,y,K,E⟩:=key i l
    exact⟨y,d,B,K,E⟩)
   refine⟨(List.range len).map F,λx C=>?_,λS hS=>.one ?_ rfl⟩
   .obtain⟨i,l,rfl⟩:=XN.1 C;obtain⟨_,_,hw,_⟩:=hF i (by have:=XU.1 l;omega);exact hw
   have Y:∀i j,i<m->j<e.n->∃v,W.cell? ⟨b,o+i*e.n+j,none⟩=some v/\v.oneCell'=true/\∀s,(e.enc (F i))[j]?=some s->D S W s v:=λi j l I=>by
    obtain⟨d,B,_,E⟩:=hF i l;obtain⟨_,Z,O⟩:=World.cells?_some B;have A:=O j I;rw[Xb oM,add_add]at A;have e1:Addr.add ⟨b,o,none⟩ (i*e.n+j)=⟨b,o+i*e.n+j,none⟩:=by rw[ye,←KH]
    rw[e1]at A;have E:=E S hS;have hjl:j<(e.enc (F i)).length:=by rw[Sh.enc_len];exact I
    have:=E.2 j _ _ (Xb hjl) (Xb (show j<d.length by omega));refine⟨_,A,this.2,λs H=>?_⟩;exact(E.2 j s _ H (Xb (show j<d.length by omega))).1
   have hsl:=D.sl (S:=S) (w:=W) e.enc ((List.range len).map F) e.n b o m (λi j=>(W.cell? ⟨b,o+i*e.n+j,none⟩).getD undef) hb (hS b) (by simp;unfold maxLen at hm;omega) (by simpa using V) (λx _=>Sh.enc_len e x) (λi j l I=>by
    obtain⟨v,B,A,_⟩:=Y i j (by simp at l;omega) I
    rw[B];exact⟨rfl,A⟩) (λi j x s C H=>by
    have l:i<len:=by have:=(Xd.1 C).1;simpa using this
    simp only[XD,KQ l,Qo,Jy]at C;subst C;have I:j<e.n:=by have:=(Xd.1 H).1;rw[Sh.enc_len]at this;exact this
    obtain⟨v,B,_,h3⟩:=Y i j oM I
    rw[B];exact h3 s H)
   simpa using hsl
  cases c
 |st fs ih=>
  refine⟨λt fuel L x c h=>?_,λ_ _ _ _ c _=>(by cases c),λ_ _ _ _ _ c _=>(by cases c)⟩;unfold Sh.fit at c;dsimp only at c
  split at c
  .rename_i gs J;simp only[XE]at c;obtain⟨hg,G⟩:=c;have G:=Xk G;obtain⟨xs,m,_,_,V,hxl,Q⟩:=DataW.trod_struct J h
   obtain⟨y,K,E⟩:=ih.2.1 gs.toList 0 m L hg (λg R=>by
    obtain⟨i,hi,rfl⟩:=Ks R;have l:i<gs.size:=by simpa using hi
    have:=Q i gs[i] (by simp[l])
    exact⟨xs[i]'oM,by simpa[Xb (show i<xs.length by omega)] using this⟩)
   refine⟨G,V.trans G,y,K,λS hS=>?_⟩;have:=E S hS;rw[Qc,Xi (by show L.length<=fs.n;omega)]at this;exact this
  cases c
 |ar es ih=>
  refine⟨λt fuel L x c h=>?_,λ_ _ _ _ c _=>(by cases c),λ_ _ _ _ _ c _=>(by cases c)⟩;unfold Sh.fit at c;dsimp only at c
  split at c
  .rename_i n u J;simp only[XE]at c;obtain⟨hg,G⟩:=c;have G:=Xk G;obtain⟨xs,m,_,_,V,hxl,Q⟩:=DataW.trod_array J h
   obtain⟨y,K,E⟩:=ih.2.2 n 0 m u L hg (λj I=>by
    have:=Q j I
    exact⟨xs[j]'oM,by rw[X8,this,Xb (show j<xs.length by omega)]⟩)
   refine⟨G,V.trans G,y,K,λS hS=>?_⟩;have:=E S hS;rw[Jw,Qc,Xi (by show L.length<=es.n;omega)]at this;exact this
  cases c
 |nil=>
  refine⟨λt fuel L x c h=>(by cases c),λgs off m L c _=>⟨(),tV,λS _=>?_⟩,λn i m u L c _=>⟨(),tV,λS _=>?_⟩⟩
  .show Dc S W [] ((L.drop off).take 0);rw[J4];exact .nil
  show Dc S W [] ((L.drop _).take 0);rw[J4];exact .nil
 |cons f r ihf ihr=>
  refine⟨λt fuel L x c h=>(by cases c),λgs off m L c C=>?_,λn i m u L c C=>?_⟩
  .unfold Sh.fit at c;dsimp only at c
   split at c
   .cases c
   rename_i g gs;simp only[XE]at c;obtain⟨⟨ho,B⟩,A⟩:=c;have ho:=Xk ho;subst ho;obtain⟨x,X⟩:=C g (XY ..);obtain⟨M,g2,y,K,E⟩:=ihf.1 g.type m _ x B X;obtain⟨z,hz,N⟩:=ihr.2.1 gs (g.offset+f.n) m L A (λg' R=>C g' (XQ _ R));refine⟨(y,z),⟨K,hz⟩,λS hS=>?_⟩;show Dc S W (f.enc y++r.enc z) ((L.drop g.offset).take (f.n+r.n));rw[zlR];have:=E S hS;rw[M]at this;exact this.append (N S hS)
  unfold Sh.fit at c;dsimp only at c
  split at c
  .cases c
  rename_i n;simp only[XE]at c;obtain⟨B,A⟩:=c;obtain⟨x,X⟩:=C 0 oM;obtain⟨M,g2,y,K,E⟩:=ihf.1 u m _ x B X
  obtain⟨z,hz,N⟩:=ihr.2.2 n (i+1) m u L A (λj I=>by
   have:=C (j+1) oM
   rwa [show i+(j+1)=i+1+j by omega]at this)
  refine⟨(y,z),⟨K,hz⟩,λS hS=>?_⟩;show Dc S W (f.enc y++r.enc z) ((L.drop (i*P.cellsOf u)).take (f.n+r.n));rw[zlR];have:=E S hS;rw[XW,M]at this;have N:=N S hS;rw[M,Ka,YJ]at N;rw[M];exact this.append N
def Dc.gs{S:LI}{w:World}{a:LR}{vs:LA}(h:Dc S w a vs){Pm:LI}{O:zh}:Gs S Pm O w a vs:=
 ⟨h.1,λj s v b c=>.d _ _ (h.2 j s v b c).1⟩
end
def LEd(s r:SV):Prop:=∀(S:LI) (w:World) (v:Value),D S w s v->D S w r v
inductive qZ:LR->LR->Prop
 |nil:qZ [] []
 |cons {a b:SV} {us bs:LR} (h:LEd a b) (t:qZ us bs):qZ (a::us) (b::bs)
def LEd.refl{s:SV}:LEd s s:=λ_ _ _ h=>h
def qZ.refl:∀{us:LR},qZ us us
 |[]=>.nil
 |_::_=>.cons .refl .refl
def qZ.C{a:SV}{us bs:LR}(t:qZ us bs):qZ (a::us) (a::bs):=.cons .refl t
def qZ.append{us bs a b:LR}(h:qZ us bs)(k:qZ a b):qZ (us++a) (bs++b):=by
 induction h with
 |nil=>exact k
 |cons h _ c=>exact .cons h c
def qZ.ix{us bs:LR}(h:qZ us bs):us.length=bs.length/\∀(j:Nat) (s r:SV),us[j]?=some s->bs[j]?=some r->LEd s r:=by
 induction h with
 |nil=>exact⟨rfl,λj s r h=>by simp at h⟩
 |cons h t c=>
  refine⟨by simp[c.1],λj s r b a=>?_⟩
  cases j with
  |zero=>simp at b a;subst b;subst a;exact h
  |succ j=>exact c.2 j s r (by simpa using b) (by simpa using a)
def LEd.sl{α β:Type}{e:α->LR}{g:β->LR}(f:α->β){xs:List α}(m:∀x∈xs,qZ (e x) (g (f x))):LEd (.sl e xs) (.sl g (xs.map f)):=λS w v h=>by
 cases h with
 |nil _ a=>exact .nil g a
 |sl _ _ sz b o cap c u hS n l r z h=>
  have:=D.sl (S:=S) (w:=w) g (xs.map f) sz b o cap c u hS (by simpa using n) (by simpa using l) (λy k=>by
   obtain⟨x,d,rfl⟩:=XN.1 k
   rw[←(m x d).ix.1];exact r x d) (λi j hi q=>z i j (by simpa using hi) q) (λi j y s k t=>by
   rw[XD]at k
   cases d:xs[i]? with
   |none=>simp[d]at k
   |some x=>
    simp[d]at k;subst k;have m:=m x (Xf d);have q:j<(e x).length:=by rw[m.ix.1];exact(Xd.1 t).1
    have p:=Xb q
    exact m.ix.2 j _ s p t _ _ _ (h i j x _ d p))
  simpa using this
def zA8{α β:Type}{e:α->LR}{g:β->LR}(f:α->β){xs:List α}(a:∀x∈xs,qZ (e x) (g (f x))):LE (.sl e xs) (.sl g (xs.map f)):=λ_ _ _ _ _ b=>.d _ _ (LEd.sl f a _ _ _ b.sl_inv)
def qZ.gs{us bs:LR}(h:qZ us bs){S Pm:LI}{O:zh}{w:World}{vs:LA}(a:vs.length=us.length/\∀(j:Nat) (s:SV) (v:Value),us[j]?=some s->vs[j]?=some v->D S w s v):Gs S Pm O w bs vs:=
 ⟨a.1.trans h.ix.1,λj r v b f=>by
  have e:j<us.length:=by rw[h.ix.1];exact(Xd.1 b).1
  have c:=Xb e
  exact .d _ _ (h.ix.2 j _ r c b _ _ _ (a.2 j _ v c f))⟩
section
variable{Vb:Type}{enc:TypeId×Value->Vb}{P:Program}{W:World}{held:Bool}
def ziL{l:Nat}{t:TypeId}{v:Value}{d:DataW Vb}{p:List MemPlace}(s:Sh)(n:(s.fit P).1 t=true)(k:(match P.underlying t with|some (.struct _)=>true|some (.array _ _)=>true|_=>false)=true)(c:Value.okWide P W .any l t v)(h:DataW.Trod enc P W 0 (λ_=>true) held t v d p):
  ∃y:s.T,s.wf y/\∀(g:LR),qZ (s.enc y) g->∀(S Pm:LI) (O:zh),(∀b,¬S b)->G S Pm O W (.agg g) v:=by
 obtain⟨fuel,r⟩:=h;obtain⟨_,_,y,u,m⟩:=(zDG s).1 t fuel _ _ n r
 have:∃a,v=.agg a:=by
  unfold Value.okWide at c
  split at k
  .rename_i f;rw[f]at c;obtain⟨a,rfl,_⟩:=c;exact⟨a,rfl⟩
  .rename_i f;rw[f]at c;obtain⟨a,rfl,_⟩:=c;exact⟨a,rfl⟩
  cases k
 obtain⟨a,rfl⟩:=this;refine⟨y,u,λg o S Pm O hS=>?_⟩;have e:=m S hS;have i:=o.gs (Pm:=Pm) (O:=O) ⟨e.1,λj s v q c=>(e.2 j s v q c).1⟩;have:=G.agg (S:=S) (Pm:=Pm) (O:=O) (w:=W) _ _ i.1 i.2
 rwa [show(Value.agg a).cells.toList.toArray=a from Array.toArray_toList]at this
end
end Go.Gs
