/- errors.As at the error of a node ('wrong'), by the kit's walk: nil; the error's own type is the target's. -/
import Derived.WalkKit
import Derived.LaidEql
import Derived.Stop.Asserts
import Derived.RowKitTokens
import Derived.Deep.Slices
import Derived.Deep.Fields
import Derived.ChangeSame
import Derived.Lib.SmallJoins
import Derived.ProofKit
import Derived.OpenShut
import Derived.Carry
import Derived.Test.YtdkomlilfdbahaaGreatDoorMAX
set_option maxRecDepth 100000
set_option maxHeartbeats 80000000
set_option linter.all false
namespace Go.Gs
open Proofs.Tryz
open Go.Proofs Go.RowKit Go.Extern.Stop Go.Stop Go.Extern
def zxx(t:Value)(w:World):Calls prog 140 #[.nilIface,t] w λe w'=>e=.returned (.bool false)/\w'=w:=by
 go_enter func140,Tryz.ntmps140
 go_wp2
 go_ret
 exact⟨rfl,rfl⟩
def zrm(t:Addr)(w:World):(ReflectliteValue.unpack (.iface 172 (.pointer (some t)))).run prog w
  =.ok (.agg #[.pointer (some ⟨3,172,none⟩),.pointer (some ⟨w.heap.size,0,none⟩),.int .u64 150]) (w.alloc (.cells #[.pointer (some t)] 172)):=by kernel_rfl
def zzS(a:Addr)(w:World):(ReflectliteValue.methodAny (ReflectliteValue.valueError "reflectlite.Value.Type" 0) (λt _ _ _=>ReflectliteType.toType t) #[.agg #[.pointer (some ⟨3,172,none⟩),.pointer (some a),.int .u64 150]]).run prog w
  =.ok (.iface 291 (.agg #[.pointer (some ⟨3,172,none⟩)])) w:=by kernel_rfl
def znb(h:Value)(w:World):(Go.method 550 291 (.agg #[h]) "Kind").run prog w=.ok (514,h) w:=by kernel_rfl
def zzT(w:World):((ReflectliteType.abiMethod λt=>(λa:Nat=>Value.int IntKind.u8 (a:Int)) <$> Rtype.kind t) #[.pointer (some ⟨3,172,none⟩)]).run prog w=.ok (.int .u8 22) w:=by kernel_rfl
def zzU(w:World):((ReflectliteType.abiMethod λt=>(λa:Nat=>Value.int IntKind.u8 (a:Int)) <$> Rtype.kind t) #[.pointer (some ⟨3,170,none⟩)]).run prog w=.ok (.int .u8 25) w:=by kernel_rfl
def zzV(z:Sem Value)(f:TypeId->Addr->Nat->Nat->Sem Value)(v:Value):
  ReflectliteValue.method z f #[v]=(do match ←ReflectliteValue.parts v with|none=>z|some (t,a,fl)=>f t a fl (fl%32)):=rfl
def znJ(a:Addr)(w:World):(ReflectliteValue.parts (.agg #[.pointer (some ⟨3,172,none⟩),.pointer (some a),.int .u64 150])).run prog w=.ok (some (172,a,150)) w:=by kernel_rfl
def zxy(a p:Addr)(W:World)(b:W.cell? a=some (.pointer (some p))):
  (ReflectliteValue.method (ReflectliteValue.valueError "reflectlite.Value.IsNil" 0) ReflectliteValue.isNil #[.agg #[.pointer (some ⟨3,172,none⟩),.pointer (some a),.int .u64 150]]).run prog W=.ok (.bool false) W:=by
 rw[zzV];simp only[Sem.run_bind,znJ,Result.andThen];simp[ReflectliteValue.isNil,loadVar,isAgg,underlying,Tryz.underlying172,b,Result.andThen]
def znc(h:Value)(w:World):(Go.method 550 291 (.agg #[h]) "Elem").run prog w=.ok (525,.agg #[h]) w:=by kernel_rfl
def zfI(h:Value)(w:World):(Go.method 550 291 (.agg #[h]) "Implements").run prog w=.ok (526,.agg #[h]) w:=by kernel_rfl
def zdO(h:Value)(w:World):(Go.method 550 291 (.agg #[h]) "AssignableTo").run prog w=.ok (523,.agg #[h]) w:=by kernel_rfl
def zzW(w:World):(ReflectliteType.method ReflectliteType.elem #[.agg #[.pointer (some ⟨3,172,none⟩)]]).run prog w=.ok (.iface 291 (.agg #[.pointer (some ⟨3,170,none⟩)])) w:=by kernel_rfl
def zld(w:World):(ReflectliteType.relation "Implements" ReflectliteType.implements_ #[.agg #[.pointer (some ⟨3,170,none⟩)],.iface 291 (.agg #[.pointer (some ⟨3,167,none⟩)])]).run prog w=.ok (.bool true) w:=by kernel_rfl
def zt3(v:Value)(w:World):(ReflectliteType.typeOf #[.iface 170 v]).run prog w=.ok (.iface 291 (.agg #[.pointer (some ⟨3,170,none⟩)])) w:=by kernel_rfl
def zle(w:World):(ReflectliteType.relation "AssignableTo" ReflectliteType.assignableTo #[.agg #[.pointer (some ⟨3,170,none⟩)],.iface 291 (.agg #[.pointer (some ⟨3,170,none⟩)])]).run prog w=.ok (.bool true) w:=by kernel_rfl
def zrn(c u:Value)(w:World):(ReflectliteValue.unpack (.iface 170 (.agg #[c,u]))).run prog w
  =.ok (.agg #[.pointer (some ⟨3,170,none⟩),.pointer (some ⟨w.heap.size,0,none⟩),.int .u64 153]) (w.alloc (.cells #[c,u] 170)):=by kernel_rfl
def zt4(w:World):(Rtype.elem? 172).run prog w=.ok (some 170) w:=by kernel_rfl
def zGA(p:Addr)(w:World):(ReflectliteValue.mk 170 p ReflectliteValue.flagAddr).run prog w=.ok (.agg #[.pointer (some ⟨3,170,none⟩),.pointer (some p),.int .u64 409]) w:=by kernel_rfl
def zxz(a p:Addr)(W:World)(b:W.cell? a=some (.pointer (some p))):
  (ReflectliteValue.method (ReflectliteValue.valueError "reflectlite.Value.Elem" 0) ReflectliteValue.elem #[.agg #[.pointer (some ⟨3,172,none⟩),.pointer (some a),.int .u64 150]]).run prog W
   =.ok (.agg #[.pointer (some ⟨3,170,none⟩),.pointer (some p),.int .u64 409]) W:=by
 rw[zzV];simp only[Sem.run_bind,znJ,Result.andThen];simp[ReflectliteValue.elem,loadVar,isAgg,underlying,Tryz.underlying172,b,Result.andThen,zt4,zGA]
def zGB(v x:Value):ReflectliteValue.set #[v,x]=(do
  let (some (dst,a,fl),some (src,b,_)):=(←ReflectliteValue.parts v,←ReflectliteValue.parts x)
   |unsupported (.noEntry "extern/(internal/reflectlite.Value).Set.zeroValue")
  if fl/ReflectliteValue.flagAddr%2==0 then unsupported (.noEntry "extern/(internal/reflectlite.Value).Set.unaddressable")
  let val ←loadVar src b
  if ←Rtype.directlyAssignable dst src then storeVar dst a val
  else if ←Rtype.implements dst src then
   if (←Rtype.kind src)==20 then
    match val with
    |.nilIface=>unsupported (.noEntry "extern/reflectlite: a nil value of one interface type handed on as a value of another")
    |_=>storeVar dst a val
   else storeVar dst a (.iface src val)
  else panicString ("reflectlite.Set: value of type " ++(←Rtype.spelt src)++ " is not assignable to type " ++(←Rtype.spelt dst))
  pure (.tuple #[])):=rfl
def zt5(a:Addr)(w:World):(ReflectliteValue.parts (.agg #[.pointer (some ⟨3,170,none⟩),.pointer (some a),.int .u64 409])).run prog w=.ok (some (170,a,409)) w:=by kernel_rfl
def zxA(a:Addr)(w:World):(ReflectliteValue.parts (.agg #[.pointer (some ⟨3,170,none⟩),.pointer (some a),.int .u64 153])).run prog w=.ok (some (170,a,153)) w:=by kernel_rfl
def zt6(w:World):(Rtype.directlyAssignable 170 170).run prog w=.ok true w:=by kernel_rfl
def zro:∃i,ti tt 170=some i/\i.sz=2/\i.kind.agg=true:=⟨_,rfl,rfl,rfl⟩
def zzX(c u:Value)(s:Nat)(W:World)(h:W.heap[s]?=some (.cells #[c,u] 170 (0,0))):
  (loadVar 170 ⟨s,0,none⟩).run prog W=.ok (.agg #[c,u]) W:=by
 obtain⟨i,hi,e,d⟩:=zro;have hT:=tok _ i hi
 have b:=run_loadCells_list (P:=prog) W ⟨s,0,none⟩ [c,u] (λj v a=>by
  rw[yg]
  match j,a with
  |0,a=>cases a;simp[World.cell?,h]
  |1,a=>cases a;simp[World.cell?,h]
  |j+2,a=>simp at a)
 unfold loadVar;rw[Sem.run_bind,hT.agg W,Result.andThen_ok,d];simp only[if_true,Sem.run_bind,hT.size,Result.andThen_ok,e];simp at b;simp[b]
def zxB(c u:Value)(b:Nat)(a:Array Value)(W:World)(f:a.size=2)(h:W.heap[b]?=some (.cells a 170 (0,0)))(g:c.oneCell'=true)(j:u.oneCell'=true):
  (storeVar 170 ⟨b,0,none⟩ (.agg #[c,u])).run prog W=.ok () (W.setRow b #[c,u]):=by
 obtain⟨i,hi,e,k⟩:=zro
 have:=vC (tok _ i hi) (v:=.agg #[c,u]) (off:=0) h (by rw[e];rfl) (by rw[e,f];decide) (λx d=>by
  have d:x∈[c,u]:=d;simp only[XA,XW,or_false]at d
  rcases d with rfl|rfl <;> assumption)
 rw[this,KI (by simp[e,f]:a.toList.length<=0+i.sz),QC,QI,XE];rfl
def zDI(b s:Nat)(c u:Value)(a:Array Value)(W:World)(h:W.heap[s]?=some (.cells #[c,u] 170 (0,0)))(g:a.size=2)(f:W.heap[b]?=some (.cells a 170 (0,0)))(d:c.oneCell'=true)(e:u.oneCell'=true):
  (ReflectliteValue.set #[.agg #[.pointer (some ⟨3,170,none⟩),.pointer (some ⟨b,0,none⟩),.int .u64 409],.agg #[.pointer (some ⟨3,170,none⟩),.pointer (some ⟨s,0,none⟩),.int .u64 153]]).run prog W
   =.ok (.tuple #[]) (W.setRow b #[c,u]):=by
 rw[zGB];simp only[Sem.run_bind,zt5,zxA,Result.andThen];simp[ReflectliteValue.flagAddr,zzX c u s W h,zt6,zxB c u b a W g f d e,Result.andThen]
def zxC(b:Nat)(c u:Value)(a:Array Value)(w:World)(g:w.cell? ⟨0,0,none⟩=some (.iface 291 (.agg #[.pointer (some ⟨3,167,none⟩)])))(k:a.size=2)(d:w.heap[b]?=some (.cells a 170 (0,0)))(i:c.oneCell'=true)(j:u.oneCell'=true):
  Calls prog 140 #[.iface 170 (.agg #[c,u]),.iface 172 (.pointer (some ⟨b,0,none⟩))] w λev w'=>ev=.returned (.bool true)/\w'=((((w.alloc (.cells #[.pointer (some ⟨b,0,none⟩)] 172)).alloc (.cells #[.pointer (some ⟨3,172,none⟩),.pointer (some ⟨w.heap.size,0,none⟩),.int .u64 150] 226)).alloc (.cells #[.pointer (some ⟨3,172,none⟩),.pointer (some ⟨w.heap.size,0,none⟩),.int .u64 150] 226)).alloc (.cells #[c,u] 170)).setRow b #[c,u]:=by
 have hV:=@run_callFunc_extern prog 211 _ (λargs=>ReflectliteValue.unpack (args.getD 0 (.tuple #[]))) func211 (by kernel_rfl) (by kernel_rfl) (by kernel_rfl) (by kernel_rfl);have hTy:=@run_callFunc_extern prog 212 _ (ReflectliteValue.methodAny (ReflectliteValue.valueError "reflectlite.Value.Type" 0) (λt _ _ _=>ReflectliteType.toType t)) func212 (by kernel_rfl) (by kernel_rfl) (by kernel_rfl) (by kernel_rfl)
 have hN:=@run_callFunc_extern prog 213 _ (ReflectliteValue.method (ReflectliteValue.valueError "reflectlite.Value.IsNil" 0) ReflectliteValue.isNil) func213 (by kernel_rfl) (by kernel_rfl) (by kernel_rfl) (by kernel_rfl);have hK:=@run_callFunc_extern prog 514 _ (ReflectliteType.abiMethod λt=>do pure (.int .u8 (←Rtype.kind t))) func514 (by kernel_rfl) (by kernel_rfl) (by kernel_rfl) (by kernel_rfl)
 have hE:=@run_callFunc_extern prog 525 _ (ReflectliteType.method ReflectliteType.elem) func525 (by kernel_rfl) (by kernel_rfl) (by kernel_rfl) (by kernel_rfl);have hI:=@run_callFunc_extern prog 526 _ (ReflectliteType.relation "Implements" ReflectliteType.implements_) func526 (by kernel_rfl) (by kernel_rfl) (by kernel_rfl) (by kernel_rfl);have hO:=@run_callFunc_extern prog 279 _ ReflectliteType.typeOf func279 (by kernel_rfl) (by kernel_rfl) (by kernel_rfl) (by kernel_rfl)
 have hA:=@run_callFunc_extern prog 523 _ (ReflectliteType.relation "AssignableTo" ReflectliteType.assignableTo) func523 (by kernel_rfl) (by kernel_rfl) (by kernel_rfl) (by kernel_rfl);have hEl:=@run_callFunc_extern prog 280 _ (ReflectliteValue.method (ReflectliteValue.valueError "reflectlite.Value.Elem" 0) ReflectliteValue.elem) func280 (by kernel_rfl) (by kernel_rfl) (by kernel_rfl) (by kernel_rfl);have hS:=@run_callFunc_extern prog 281 _ ReflectliteValue.set func281 (by kernel_rfl) (by kernel_rfl) (by kernel_rfl) (by kernel_rfl);have tO:=zt3
 have mA:=zdO;have aW:=zle;have vW:=zrn;have m:=zrm;have n:=zzS;have mK:=znb;have mE:=znc;have mI:=zfI;have kP:=zzT;have kW:=zzU;have eP:=zzW;have iW:=zld;have o:=zxy ⟨w.heap.size,0,none⟩ ⟨b,0,none⟩ ((w.alloc (.cells #[.pointer (some ⟨b,0,none⟩)] 172)).alloc (.cells #[.pointer (some ⟨3,172,none⟩),.pointer (some ⟨w.heap.size,0,none⟩),.int .u64 150] 226)) sI;have e:0<w.heap.size:=zkF g
 have l:((w.alloc (.cells #[.pointer (some ⟨b,0,none⟩)] 172)).alloc (.cells #[.pointer (some ⟨3,172,none⟩),.pointer (some ⟨w.heap.size,0,none⟩),.int .u64 150] 226)).cell? ⟨0,0,none⟩=some (.iface 291 (.agg #[.pointer (some ⟨3,167,none⟩)])):=by
  rw[World.cell?_alloc_lt _ _ ⟨0,0,none⟩ (by first|(simp;done)|(simp;omega)),World.cell?_alloc_lt _ _ ⟨0,0,none⟩ e];exact g
 have f:b<w.heap.size:=by
  rcases Kf b w.heap.size with h|h
  .exact h
  rw[K6 h]at d;cases d
 have el:=zxz ⟨w.heap.size,0,none⟩ ⟨b,0,none⟩ (((w.alloc (.cells #[.pointer (some ⟨b,0,none⟩)] 172)).alloc (.cells #[.pointer (some ⟨3,172,none⟩),.pointer (some ⟨w.heap.size,0,none⟩),.int .u64 150] 226)).alloc (.cells #[.pointer (some ⟨3,172,none⟩),.pointer (some ⟨w.heap.size,0,none⟩),.int .u64 150] 226)) (by rw[World.cell?_alloc_lt _ _ ⟨w.heap.size,0,none⟩ (by first|(simp;done)|(simp;omega))];simp)
 have st:=zDI b (w.heap.size+1+1+1) c u a ((((w.alloc (.cells #[.pointer (some ⟨b,0,none⟩)] 172)).alloc (.cells #[.pointer (some ⟨3,172,none⟩),.pointer (some ⟨w.heap.size,0,none⟩),.int .u64 150] 226)).alloc (.cells #[.pointer (some ⟨3,172,none⟩),.pointer (some ⟨w.heap.size,0,none⟩),.int .u64 150] 226)).alloc (.cells #[c,u] 170))
  (by have:=heap_alloc_new (((w.alloc (.cells #[.pointer (some ⟨b,0,none⟩)] 172)).alloc (.cells #[.pointer (some ⟨3,172,none⟩),.pointer (some ⟨w.heap.size,0,none⟩),.int .u64 150] 226)).alloc (.cells #[.pointer (some ⟨3,172,none⟩),.pointer (some ⟨w.heap.size,0,none⟩),.int .u64 150] 226)) (.cells #[c,u] 170);simpa using this) k
  (by rw[heap_alloc_old _ _ (by first|(simp;done)|(simp;omega)),heap_alloc_old _ _ (by first|(simp;done)|(simp;omega)),heap_alloc_old _ _ (by first|(simp;done)|(simp;omega)),heap_alloc_old _ _ f];exact d) i j
 go_enter func140,Tryz.ntmps140
 go_wp2
 refine wp_loop_rounds 1 ?_;rw[rounds_succ]
 go_wp2
 go_ret
 exact⟨rfl,rfl⟩
open Go.Proofs
inductive Er
 |nil
 |w (c:Int) (u:Er)
def erV:Er->Value
 |.nil=>.nilIface
 |.w c u=>.iface 170 (.agg #[.int .i64 c,erV u])
def er_if(e:Er):ifB (erV e)=true:=by cases e <;> rfl
def zzY(e:Er):(erV e).oneCell'=true:=by cases e <;> rfl
def zzZ(e:Er):LR:=[.op (erV e)]
def LE_er{c:Int}{u:Er}:LE (.ifc 170 (.agg [i64 c,.op (erV u)])) (.op (erV (.w c u))):=λS Pm Z w v i=>by
 obtain⟨x,rfl,k⟩:=i.ifc_inv;obtain⟨vs,rfl,f⟩:=k.agg_inv;obtain⟨a,r,rfl,g,j⟩:=f.cons_inv;obtain⟨b,l,rfl,h,e⟩:=j.cons_inv;rw[e.nil_inv,g.val_inv,h.op_inv.1];exact .d _ _ (.op _ rfl)
def zGC{c:Int}:LE (.ifc 170 (.agg [i64 c,.val .nilIface])) (.op (erV (.w c .nil))):=λS Pm Z w v i=>by
 obtain⟨x,rfl,k⟩:=i.ifc_inv;obtain⟨vs,rfl,f⟩:=k.agg_inv;obtain⟨a,r,rfl,g,j⟩:=f.cons_inv;obtain⟨b,l,rfl,h,e⟩:=j.cons_inv;rw[e.nil_inv,g.val_inv,h.val_inv];exact .d _ _ (.op _ rfl)
def qb(p:Prop)[Decidable p](c:Int):Er:=if p then .w c .nil else .nil
def zbz:List Er->Er
 |[]=>.nil
 |.nil::r=>zbz r
 |.w c u::_=>.w 0 (.w c u)
def zlf:∀{l:List Er},(∀e∈l,e=.nil)->zbz l=.nil
 |[],_=>rfl
 |.nil::r,h=>zlf (l:=r) λe a=>h e (.tail _ a)
 |.w c u::_,h=>by cases h _ (.head _)
def zlg:∀{l:List Er} {i:Nat} {c:Int} {u:Er},(∀e∈l.take i,e=.nil)->l[i]?=some (.w c u)->zbz l=.w 0 (.w c u)
 |[],i,c,u,_,a=>by simp at a
 |e::r,0,c,u,_,a=>by simp at a;subst a;rfl
 |e::r,i+1,c,u,h,a=>by
  have b:e=.nil:=h e (by rw[X8];exact .head _);subst b;exact zlg (l:=r) (i:=i) (λe b=>h e (by rw[X8];exact .tail _ b)) (by simpa using a)
def yF(p:Prop)[Decidable p](c:Int):CX 203 [pr p,i64 c] (.op (erV (qb p c))):=by
 refine zc func203<|Br.mk (λh=>?_) (λh=>?_)
 .rw[qb,Xc h];exact zvw rfl
 rw[qb,Xe (Xa.1 h)];exact zGC
def zps(l:List Er):CX 202 [.sl zzZ l] (.op (erV (zbz l))):=by
 refine zc func202 λj=>?_;refine⟨Nat,λi=>⟨[(7,i64 i),(6,i64 l.length),(5,.sl zzZ l)],[],0,17,0⟩,λi=>i<=l.length/\∀e∈l.take i,e=.nil,λi=>l.length-i,0,⟨Xh _,λt ht=>by cases ht⟩,zB [],?_⟩
 rintro i ⟨f,b⟩
 refine⟨λg:(i:Int)<l.length=>?_,λg:¬(i:Int)<l.length=>?_⟩
 .refine wb λx(d:l[i]?=some x)=>?_;refine⟨λh=>?_,λh=>?_⟩
  .cases x with
   |nil=>exact absurd rfl h
   |w c u=>rw[zlg b d];exact LE_er
  cases x with
  |w c u=>exact absurd (λh=>by cases h) h
  |nil=>
   refine wa<|⟨i+1,⟨oM,λe a=>?_⟩,zB [],oN⟩;rw[Xn,d]at a
   rcases Xu.1 a with a|a
   .exact b e a
   simpa using a
 rw[Xi oM]at b;rw[zlf b];exact zvw rfl
def glE:GL 0 (.iface 291 (.agg #[.pointer (some ⟨3,167,none⟩)])):=.head _
def zjA:zdT prog 140:=⟨_,func140,rfl,rfl⟩
def zrq(x y:SV):CG0 140 [.op (erV .nil),.ifc 172 (.loc 0 0)] [(0,.box 170 [x,y])] (bl false) [(0,.box 170 [x,y])]:=by
 refine⟨zjA,λKeep Z w vs _ h j g=>?_⟩;obtain⟨a,r,rfl,f,i⟩:=g.cons_inv;obtain⟨b,l,rfl,k,c⟩:=i.cons_inv;obtain rfl:=c.nil_inv;obtain rfl:=f.op_inv.1;refine(zxx b w).mono ?_
 rintro e w' ⟨rfl,rfl⟩
 exact⟨_,Z,rfl,.refl,h,.d _ _ (.val _)⟩
def zI.more{Keep:LI}{M:LT}{Z:zh}{w:World}(d:zI Keep M Z w)(c:Array Value)(t:TypeId):Stp (Own M Z) (Own M Z) Z Z w (w.alloc (.cells c t))/\zI Keep M Z (w.alloc (.cells c t)):=
 d.same rfl rfl (.cells _ _ _) sI (λb a=>heap_alloc_old w _ a)
def zrr(c:Int)(u:Er)(x y:SV):CG0 140 [.op (erV (.w c u)),.ifc 172 (.loc 0 0)] [(0,.box 170 [x,y])] (bl true) [(0,.box 170 [i64 c,.op (erV u)])]:=by
 refine⟨zjA,λKeep Z w vs _ n G D=>?_⟩;obtain⟨a,r,rfl,B,F⟩:=D.cons_inv;obtain⟨b,U,rfl,C,o⟩:=F.cons_inv;obtain rfl:=o.nil_inv;obtain rfl:=B.op_inv.1;obtain⟨p,rfl,E⟩:=C.ifc_inv;obtain⟨k,l,rfl⟩:=E.loc_inv;obtain⟨R,z,hρ0,f,g,q,i⟩:=n.rel 0 _ (.head _);rw[l]at hρ0;cases hρ0
 refine(zxC k (.int .i64 c) (erV u) z.toArray w (n.glc glE) (by simp[g]) f rfl (zzY u)).mono ?_
 rintro e w' ⟨rfl,rfl⟩
 obtain⟨s1,I⟩:=n.more #[.pointer (some ⟨k,0,none⟩)] 172;obtain⟨M,J⟩:=I.more #[.pointer (some ⟨3,172,none⟩),.pointer (some ⟨w.heap.size,0,none⟩),.int .u64 150] 226;obtain⟨N,K⟩:=J.more #[.pointer (some ⟨3,172,none⟩),.pointer (some ⟨w.heap.size,0,none⟩),.int .u64 150] 226;obtain⟨O,t⟩:=K.more #[.int .i64 c,erV u] 170;obtain⟨T,A,hρ2,hheap2,hlen2,_,_⟩:=t.rel 0 _ (.head _);rw[l]at hρ2;cases hρ2
 obtain⟨Q,L⟩:=t.write (.box 170 [i64 c,.op (erV u)]) (.head _) l rfl #[.int .i64 c,erV u] λm=>
  ⟨k,[.int .i64 c,erV u],l,by simpa using setRow_heap _ k _ _ 170 _ hheap2,rfl,λv h=>by
   simp only[XA,XW,or_false]at h
   rcases h with rfl|rfl
   .rfl
   .exact zzY u,λj s v m h=>by
   match j with
   |0=>cases m;cases h;exact .d _ _ (.val _)
   |1=>cases m;cases h;exact .d _ _ (.op _ (er_if u))
   |j+2=>simp at m⟩
 exact⟨_,Z,rfl,(((s1.trans M).trans N).trans O).trans Q,L,.d _ _ (.val _)⟩
end Go.Gs
namespace Go.Gs
open Go.ChangeShapes Go.WideShapes Go.Deep Go.Joins Go.RowKit
section
variable{H:Type}{enc:TypeId×Value->H}{P:Program}{w:World}{base:Nat}{held:Bool}
end
def args_stay{H:Type}{enc:TypeId×Value->H}{P:Program}(m:laidOutB P=true){W W':World}(l:Below W.heap.size W W'){sp:Nat->Bool}:
  ∀{ts:List TypeId} {vs:LA} {i:List (DataW H)} {c:List MemPlace},(ts.all λt=>P.readableRec t&&decide (t<P.types.size))=true->
   DataW.TrodAll enc P W 0 (λ_=>true) true ts vs i c->(∀p∈c,p.block<W.heap.size)->(∀p∈c,sp p.block=true)->DataW.TrodAll enc P W' 0 sp true ts vs i c
 |[],[],[],_,_,h,_,_=>h
 |t::ts,v::vs,d::i,c,b,⟨p,q,n,o,e⟩,f,g=>by
  simp only[YS,XF,decide_eq_true_eq]at b;have j:∀x∈p,x∈c:=λx a=>by rw[e];exact Kz _ a
  have k:∀x∈q,x∈c:=λx a=>by rw[e];exact Kt _ a
  refine⟨p,q,WideElems.Trod_stays m b.1.1 b.1.2 n (λx a=>l.same (f x (j x a))) (λx a=>g x (j x a)),args_stay m l (by simpa using b.2) o (λx a=>f x (k x a)) (λx a=>g x (k x a)),e⟩
end Go.Gs
namespace Go.Gs
open Proofs.Tryz
open Go.ChangeShapes Go.WideShapes Go.Deep Go.Joins Go.RowKit
section
inductive Sh
 |int (k:IntKind)
 |bool
 |sl (e:Sh)
 |st (fs:Sh)
 |ar (es:Sh)
 |nil
 |cons (f r:Sh)
def Sh.T:Sh->Type
 |.int _=>Int
 |.bool=>Bool
 |.sl e=>List e.T
 |.st fs=>fs.T
 |.ar a=>a.T
 |.nil=>Unit
 |.cons f r=>f.T×r.T
def Sh.dflt:(s:Sh)->s.T
 |.int _=>(0:Int)
 |.bool=>false
 |.sl _=>[]
 |.st fs=>fs.dflt
 |.ar a=>a.dflt
 |.nil=>()
 |.cons f r=>(f.dflt,r.dflt)
def Sh.n:Sh->Nat
 |.int _=>1
 |.bool=>1
 |.sl _=>1
 |.st fs=>fs.n
 |.ar a=>a.n
 |.nil=>0
 |.cons f r=>f.n+r.n
def Sh.enc:(s:Sh)->s.T->LR
 |.int k,n=>[.val (.int k n)]
 |.bool,b=>[.pr (@Eq Bool b true) (instDecidableEqBool b true)]
 |.sl e,xs=>[.sl e.enc xs]
 |.st fs,x=>fs.enc x
 |.ar a,x=>a.enc x
 |.nil,_=>[]
 |.cons f r,x=>f.enc x.1++r.enc x.2
def Sh.wf:(s:Sh)->s.T->Prop
 |.int k,n=>(Lit.int k n).wf=true
 |.bool,_=>True
 |.sl e,xs=>∀x:e.T,@Membership.mem e.T (List e.T) _ xs x->e.wf x
 |.st fs,x=>fs.wf x
 |.ar a,x=>a.wf x
 |.nil,_=>True
 |.cons f r,x=>f.wf x.1/\r.wf x.2
def Sh.fit(P:Program):Sh->(TypeId->Bool)×(List Field->Nat->Bool)×(Nat->TypeId->Bool)
 |.int k=>(λt=>match P.underlying t with
  |some (.int b)=>ztF k b&&Nat.beq (P.cellsOf t) 1
  |_=>false,λ_ _=>false,λ_ _=>false)
 |.bool=>(λt=>match P.underlying t with
  |some .bool=>Nat.beq (P.cellsOf t) 1
  |_=>false,λ_ _=>false,λ_ _=>false)
 |.sl e=>(λt=>match P.underlying t with
  |some (.slice u)=>(e.fit P).1 u&&Nat.beq (P.cellsOf t) 1&&Nat.blt 0 e.n
  |_=>false,λ_ _=>false,λ_ _=>false)
 |.st fs=>(λt=>match P.underlying t with
  |some (.struct gs)=>(fs.fit P).2.1 gs.toList 0&&Nat.beq (P.cellsOf t) fs.n
  |_=>false,λ_ _=>false,λ_ _=>false)
 |.ar a=>(λt=>match P.underlying t with
  |some (.array n u)=>(a.fit P).2.2 n u&&Nat.beq (P.cellsOf t) a.n
  |_=>false,λ_ _=>false,λ_ _=>false)
 |.nil=>(λ_=>false,λgs _=>match gs with
  |[]=>true
  |_=>false,λn _=>match n with
  |0=>true
  |_=>false)
 |.cons f r=>(λ_=>false,λgs off=>match gs with
  |[]=>false
  |g::gs=>Nat.beq g.offset off&&(f.fit P).1 g.type&&(r.fit P).2.1 gs (off+f.n),λn u=>match n with
  |0=>false
  |n+1=>(f.fit P).1 u&&(r.fit P).2.2 n u)
def Sh.enc_len:∀(s:Sh) (x:s.T),(s.enc x).length=s.n
 |.int _,_=>rfl
 |.bool,_=>rfl
 |.sl _,_=>rfl
 |.st fs,x=>Sh.enc_len fs x
 |.ar a,x=>Sh.enc_len a x
 |.nil,_=>rfl
 |.cons f r,x=>by
  show(f.enc x.1++r.enc x.2).length=f.n+r.n;rw[Xr,Sh.enc_len f,Sh.enc_len r]
def Dc(S:LI)(w:World)(a:LR)(vs:LA):Prop:=
 vs.length=a.length/\∀(j:Nat) (s:SV) (v:Value),a[j]?=some s->vs[j]?=some v->D S w s v/\v.oneCell'=true
variable{S:LI}
def Dc.nil{w:World}:Dc S w [] []:=⟨rfl,λj s v h=>by simp at h⟩
def Dc.append{w:World}{c d:LR}{vs us:LA}(h:Dc S w c vs)(k:Dc S w d us):Dc S w (c++d) (vs++us):=by
 refine⟨by rw[Xr,Xr,h.1,k.1],λj s v a b=>?_⟩
 by_cases e:j<c.length
 .rw[XN e]at a;rw[XN (by rw[h.1];exact e)]at b;exact h.2 j s v a b
 rw[XG oM]at a;rw[XG (by rw[h.1];omega),h.1]at b;exact k.2 _ s v a b
def Dc.one{w:World}{s:SV}{v:Value}(h:D S w s v)(c:v.oneCell'=true):Dc S w [s] [v]:=⟨rfl,λj s' d a b=>by
 match j with
 |0=>simp at a b;subst a;subst b;exact⟨h,c⟩
 |j+1=>simp at a⟩
end
section
variable{H:Type}{enc:TypeId×Value->H}{P:Program}{W:World}{held:Bool}
def zme(L:LA)(off a b:Nat):(L.drop off).take (a+b)=(L.drop off).take a++(L.drop (off+a)).take b:=by
 rw[List.take_add,J7]
def zEs:∀s:Sh,
  ((∀(t:TypeId) (fuel:Nat) (L:LA) (x:DataW H×List MemPlace),(s.fit P).1 t=true->DataW.trod enc P W 0 (λ_=>true) held fuel t L=some x->
   P.cellsOf t=s.n/\L.length=s.n/\∃y:s.T,s.wf y/\∀S:LI,(∀b,¬S b)->Dc S W (s.enc y) L))/\
  (∀(gs:List Field) (off m:Nat) (L:LA),(s.fit P).2.1 gs off=true->(∀g∈gs,∃x,DataW.trod enc P W 0 (λ_=>true) held m g.type ((L.drop g.offset).take (P.cellsOf g.type))=some x)->
   ∃y:s.T,s.wf y/\∀S:LI,(∀b,¬S b)->Dc S W (s.enc y) ((L.drop off).take s.n))/\
  (∀(n i m:Nat) (u:TypeId) (L:LA),(s.fit P).2.2 n u=true->(∀j,j<n->∃x,DataW.trod enc P W 0 (λ_=>true) held m u ((L.drop ((i+j)*P.cellsOf u)).take (P.cellsOf u))=some x)->
   ∃y:s.T,s.wf y/\∀S:LI,(∀b,¬S b)->Dc S W (s.enc y) ((L.drop (i*P.cellsOf u)).take s.n)):=by
 intro s
 induction s with
 |int k=>
  refine⟨λt fuel L x c h=>?_,λ_ _ _ _ c _=>(by cases c),λ_ _ _ _ _ c _=>(by cases c)⟩;unfold Sh.fit at c;dsimp only at c
  split at c
  .rename_i k' K;simp only[XF]at c;obtain⟨V,G⟩:=c;have V:=zgR V;subst V;obtain⟨q,rfl,_,hw⟩:=DataW.trod_int K h;exact⟨Xk G,rfl,q,hw,λS _=>.one (.val _) rfl⟩
  cases c
 |bool=>
  refine⟨λt fuel L x c h=>?_,λ_ _ _ _ c _=>(by cases c),λ_ _ _ _ _ c _=>(by cases c)⟩;unfold Sh.fit at c;dsimp only at c
  split at c
  .rename_i K;obtain⟨b,rfl,_⟩:=DataW.trod_bool K h;refine⟨Xk c,rfl,b,tV,λS _=>.one ?_ rfl⟩;have:=D.pr (S:=S) (w:=W) (b=true) inferInstance
   rwa [show decide (b=true)=b by cases b <;> rfl]at this
  cases c
 |sl e ih=>
  refine⟨λt fuel L x c h=>?_,λ_ _ _ _ c _=>(by cases c),λ_ _ _ _ _ c _=>(by cases c)⟩;unfold Sh.fit at c;dsimp only at c
  split at c
  .rename_i u K;simp only[XF]at c;obtain⟨⟨O,G⟩,hpos⟩:=c;have hpos:0<e.n:=by simpa using hpos
   refine⟨Xk G,?_⟩
   obtain⟨rfl,_⟩|⟨a,len,cap,m,n,Df,Pl,rfl,_,X,hm,hmm,_,hi⟩:=open_slice K h
   .exact⟨rfl,([]:List e.T),λx C=>(by cases C),λS _=>.one (.nil _ _) rfl⟩
   have hmc:m=cap:=by simpa using hmm
   subst hmc;refine⟨rfl,?_⟩
   have key:∀i,i<m->∃d,P.cellsOf u=e.n/\W.cells? 0 (a.add (i*e.n)) e.n=some d/\∃y:e.T,e.wf y/\∀S:LI,(∀b,¬S b)->Dc S W (e.enc y) d:=λi l=>by
    obtain⟨d,B,A⟩:=hi i l;obtain⟨N,g2,g3⟩:=ih.1 u n d _ O A;rw[N]at B;exact⟨d,N,B,g3⟩
   by_cases h0:m=0
   .subst h0;have:len=0:=oM;subst this;exact⟨([]:List e.T),λx C=>(by cases C),λS _=>.one (.nil _ _) rfl⟩
   have hspot:a.spot=none/\a.block<W.heap.size:=by
    obtain⟨d,_,B,_⟩:=key 0 oM;obtain⟨_,_,Q⟩:=World.cells?_some B;have A:=Q 0 hpos;have hlen:d.length=e.n:=by obtain⟨_,X,_⟩:=World.cells?_some B;exact X
    rw[Xb oM,JB]at A;have:(a.add 0).add 0=a:=by unfold Addr.add;simp
    rw[this]at A;unfold World.cell? at A
    split at A
    .rename_i hb
     split at A
     .cases A
     rename_i I;refine⟨by simpa using I,(X6.1 hb).1⟩
    cases A
   obtain⟨b,o,sp⟩:=a;obtain⟨I,hb⟩:=hspot;have I:sp=none:=I;subst I
   haveI:Inhabited e.T:=⟨e.dflt⟩
   obtain⟨F,hF⟩:=choose_lt (α:=e.T) (n:=m) (p:=λi y=>∃d,W.cells? 0 (Addr.add ⟨b,o,none⟩ (i*e.n)) e.n=some d/\e.wf y/\∀S:LI,(∀b,¬S b)->Dc S W (e.enc y) d) (λi l=>by
    obtain⟨d,_,B,y,M,E⟩:=key i l
    exact⟨y,d,B,M,E⟩)
   refine⟨(List.range len).map F,λx C=>?_,λS hS=>.one ?_ rfl⟩
   .obtain⟨i,l,rfl⟩:=XK.1 C;obtain⟨_,_,hw,_⟩:=hF i (by have:=XV.1 l;omega);exact hw
   have Z:∀i j,i<m->j<e.n->∃v,W.cell? ⟨b,o+i*e.n+j,none⟩=some v/\v.oneCell'=true/\∀s,(e.enc (F i))[j]?=some s->D S W s v:=λi j l J=>by
    obtain⟨d,B,_,E⟩:=hF i l;obtain⟨_,hlen,Q⟩:=World.cells?_some B;have A:=Q j J;rw[Xb oM,add_add]at A;have e1:Addr.add ⟨b,o,none⟩ (i*e.n+j)=⟨b,o+i*e.n+j,none⟩:=by rw[yg,←KL]
    rw[e1]at A;have E:=E S hS;have hjl:j<(e.enc (F i)).length:=by rw[Sh.enc_len];exact J
    have:=E.2 j _ _ (Xb hjl) (Xb (show j<d.length by omega));refine⟨_,A,this.2,λs I=>?_⟩;exact(E.2 j s _ I (Xb (show j<d.length by omega))).1
   have hsl:=D.sl (S:=S) (w:=W) e.enc ((List.range len).map F) e.n b o m (λi j=>(W.cell? ⟨b,o+i*e.n+j,none⟩).getD undef) hb (hS b) (by simp;unfold maxLen at hm;omega) (by simpa using X) (λx _=>Sh.enc_len e x) (λi j l J=>by
    obtain⟨v,B,A,_⟩:=Z i j (by simp at l;omega) J
    rw[B];exact⟨rfl,A⟩) (λi j x s C I=>by
    have l:i<len:=by have:=(Xd.1 C).1;simpa using this
    simp only[XD,KV l,Qq,JC]at C;subst C;have J:j<e.n:=by have:=(Xd.1 I).1;rw[Sh.enc_len]at this;exact this
    obtain⟨v,B,_,h3⟩:=Z i j oM J
    rw[B];exact h3 s I)
   simpa using hsl
  cases c
 |st fs ih=>
  refine⟨λt fuel L x c h=>?_,λ_ _ _ _ c _=>(by cases c),λ_ _ _ _ _ c _=>(by cases c)⟩;unfold Sh.fit at c;dsimp only at c
  split at c
  .rename_i gs K;simp only[XF]at c;obtain⟨hg,G⟩:=c;have G:=Xk G;obtain⟨xs,m,_,_,X,hxl,R⟩:=DataW.trod_struct K h
   obtain⟨y,M,E⟩:=ih.2.1 gs.toList 0 m L hg (λg U=>by
    obtain⟨i,hi,rfl⟩:=Kw U;have l:i<gs.size:=by simpa using hi
    have:=R i gs[i] (by simp[l])
    exact⟨xs[i]'oM,by simpa[Xb (show i<xs.length by omega)] using this⟩)
   refine⟨G,X.trans G,y,M,λS hS=>?_⟩;have:=E S hS;rw[Qd,Xi (by show L.length<=fs.n;omega)]at this;exact this
  cases c
 |ar es ih=>
  refine⟨λt fuel L x c h=>?_,λ_ _ _ _ c _=>(by cases c),λ_ _ _ _ _ c _=>(by cases c)⟩;unfold Sh.fit at c;dsimp only at c
  split at c
  .rename_i n u K;simp only[XF]at c;obtain⟨hg,G⟩:=c;have G:=Xk G;obtain⟨xs,m,_,_,X,hxl,R⟩:=DataW.trod_array K h
   obtain⟨y,M,E⟩:=ih.2.2 n 0 m u L hg (λj J=>by
    have:=R j J
    exact⟨xs[j]'oM,by rw[Kb,this,Xb (show j<xs.length by omega)]⟩)
   refine⟨G,X.trans G,y,M,λS hS=>?_⟩;have:=E S hS;rw[JB,Qd,Xi (by show L.length<=es.n;omega)]at this;exact this
  cases c
 |nil=>
  refine⟨λt fuel L x c h=>(by cases c),λgs off m L c _=>⟨(),tV,λS _=>?_⟩,λn i m u L c _=>⟨(),tV,λS _=>?_⟩⟩
  .show Dc S W [] ((L.drop off).take 0);rw[QC];exact .nil
  show Dc S W [] ((L.drop _).take 0);rw[QC];exact .nil
 |cons f r ihf ihr=>
  refine⟨λt fuel L x c h=>(by cases c),λgs off m L c C=>?_,λn i m u L c C=>?_⟩
  .unfold Sh.fit at c;dsimp only at c
   split at c
   .cases c
   rename_i g gs;simp only[XF]at c;obtain⟨⟨ho,B⟩,A⟩:=c;have ho:=Xk ho;subst ho;obtain⟨x,Y⟩:=C g (X0 ..);obtain⟨N,g2,y,M,E⟩:=ihf.1 g.type m _ x B Y;obtain⟨z,hz,O⟩:=ihr.2.1 gs (g.offset+f.n) m L A (λg' U=>C g' (XR _ U));refine⟨(y,z),⟨M,hz⟩,λS hS=>?_⟩;show Dc S W (f.enc y++r.enc z) ((L.drop g.offset).take (f.n+r.n));rw[zme];have:=E S hS;rw[N]at this;exact this.append (O S hS)
  unfold Sh.fit at c;dsimp only at c
  split at c
  .cases c
  rename_i n;simp only[XF]at c;obtain⟨B,A⟩:=c;obtain⟨x,Y⟩:=C 0 oM;obtain⟨N,g2,y,M,E⟩:=ihf.1 u m _ x B Y
  obtain⟨z,hz,O⟩:=ihr.2.2 n (i+1) m u L A (λj J=>by
   have:=C (j+1) oM
   rwa [show i+(j+1)=i+1+j by omega]at this)
  refine⟨(y,z),⟨M,hz⟩,λS hS=>?_⟩;show Dc S W (f.enc y++r.enc z) ((L.drop (i*P.cellsOf u)).take (f.n+r.n));rw[zme];have:=E S hS;rw[XX,N]at this;have O:=O S hS;rw[N,Kd,YO]at O;rw[N];exact this.append O
def Dc.gs{S:LI}{w:World}{a:LR}{vs:LA}(h:Dc S w a vs){Pm:LI}{Z:zh}:Gs S Pm Z w a vs:=
 ⟨h.1,λj s v b c=>.d _ _ (h.2 j s v b c).1⟩
end
def LEd(s r:SV):Prop:=∀(S:LI) (w:World) (v:Value),D S w s v->D S w r v
inductive jd:LR->LR->Prop
 |nil:jd [] []
 |cons {a b:SV} {us bs:LR} (h:LEd a b) (t:jd us bs):jd (a::us) (b::bs)
def LEd.refl{s:SV}:LEd s s:=λ_ _ _ h=>h
def jd.refl:∀{us:LR},jd us us
 |[]=>.nil
 |_::_=>.cons .refl .refl
def jd.C{a:SV}{us bs:LR}(t:jd us bs):jd (a::us) (a::bs):=.cons .refl t
def jd.append{us bs a b:LR}(h:jd us bs)(k:jd a b):jd (us++a) (bs++b):=by
 induction h with
 |nil=>exact k
 |cons h _ c=>exact .cons h c
def jd.ix{us bs:LR}(h:jd us bs):us.length=bs.length/\∀(j:Nat) (s r:SV),us[j]?=some s->bs[j]?=some r->LEd s r:=by
 induction h with
 |nil=>exact⟨rfl,λj s r h=>by simp at h⟩
 |cons h t c=>
  refine⟨by simp[c.1],λj s r b a=>?_⟩
  cases j with
  |zero=>simp at b a;subst b;subst a;exact h
  |succ j=>exact c.2 j s r (by simpa using b) (by simpa using a)
def LEd.sl{α β:Type}{e:α->LR}{g:β->LR}(f:α->β){xs:List α}(m:∀x∈xs,jd (e x) (g (f x))):LEd (.sl e xs) (.sl g (xs.map f)):=λS w v h=>by
 cases h with
 |nil _ a=>exact .nil g a
 |sl _ _ sz b o cap c u hS n l r z h=>
  have:=D.sl (S:=S) (w:=w) g (xs.map f) sz b o cap c u hS (by simpa using n) (by simpa using l) (λy k=>by
   obtain⟨x,d,rfl⟩:=XK.1 k
   rw[←(m x d).ix.1];exact r x d) (λi j hi q=>z i j (by simpa using hi) q) (λi j y s k t=>by
   rw[XD]at k
   cases d:xs[i]? with
   |none=>simp[d]at k
   |some x=>
    simp[d]at k;subst k;have m:=m x (Xf d);have q:j<(e x).length:=by rw[m.ix.1];exact(Xd.1 t).1
    have p:=Xb q
    exact m.ix.2 j _ s p t _ _ _ (h i j x _ d p))
  simpa using this
def zBK{α β:Type}{e:α->LR}{g:β->LR}(f:α->β){xs:List α}(a:∀x∈xs,jd (e x) (g (f x))):LE (.sl e xs) (.sl g (xs.map f)):=λ_ _ _ _ _ b=>.d _ _ (LEd.sl f a _ _ _ b.sl_inv)
def jd.gs{us bs:LR}(h:jd us bs){S Pm:LI}{Z:zh}{w:World}{vs:LA}(a:vs.length=us.length/\∀(j:Nat) (s:SV) (v:Value),us[j]?=some s->vs[j]?=some v->D S w s v):Gs S Pm Z w bs vs:=
 ⟨a.1.trans h.ix.1,λj r v b f=>by
  have e:j<us.length:=by rw[h.ix.1];exact(Xd.1 b).1
  have c:=Xb e
  exact .d _ _ (h.ix.2 j _ r c b _ _ _ (a.2 j _ v c f))⟩
section
variable{H:Type}{enc:TypeId×Value->H}{P:Program}{W:World}{held:Bool}
def zi5{l:Nat}{t:TypeId}{v:Value}{d:DataW H}{p:List MemPlace}(s:Sh)(n:(s.fit P).1 t=true)(k:(match P.underlying t with|some (.struct _)=>true|some (.array _ _)=>true|_=>false)=true)(c:Value.okWide P W .any l t v)(h:DataW.Trod enc P W 0 (λ_=>true) held t v d p):
  ∃y:s.T,s.wf y/\∀(g:LR),jd (s.enc y) g->∀(S Pm:LI) (Z:zh),(∀b,¬S b)->G S Pm Z W (.agg g) v:=by
 obtain⟨fuel,r⟩:=h;obtain⟨_,_,y,u,m⟩:=(zEs s).1 t fuel _ _ n r
 have:∃a,v=.agg a:=by
  unfold Value.okWide at c
  split at k
  .rename_i f;rw[f]at c;obtain⟨a,rfl,_⟩:=c;exact⟨a,rfl⟩
  .rename_i f;rw[f]at c;obtain⟨a,rfl,_⟩:=c;exact⟨a,rfl⟩
  cases k
 obtain⟨a,rfl⟩:=this;refine⟨y,u,λg o S Pm Z hS=>?_⟩;have e:=m S hS;have i:=o.gs (Pm:=Pm) (Z:=Z) ⟨e.1,λj s v q c=>(e.2 j s v q c).1⟩;have:=G.agg (S:=S) (Pm:=Pm) (Z:=Z) (w:=W) _ _ i.1 i.2
 rwa [show(Value.agg a).cells.toList.toArray=a from Array.toArray_toList]at this
end
open Go.Proofs
inductive Pw
 |d (q:Pl)
 |c (r:LU)
def pwE:Pw->LR
 |.d q=>plE q
 |.c r=>[.sl ptE r,.val (.bool false)]
def pwP:Pw->Pl
 |.d q=>q
 |.c r=>⟨r,false⟩
def zym{q:Prop}{j:Decidable q}(h:¬q):LEd (.val (.bool false)) (.pr q j):=λS w v a=>by
 cases a
 have:=D.pr (S:=S) (w:=w) q j
 simpa[h] using this
def LE_pw(l:List Pw):LE (.sl pwE l) (.sl plE (l.map pwP)):=zBK pwP λx _=>by
 cases x with
 |d q=>exact .refl
 |c r=>exact .C (.cons (zym (show¬(false=true) by decide)) .nil)
def zor(p:Pl)(q:Nat×Nat):Pw:=if p.cl=true/\q.1=0/\(q.2:Int)=zM p then .d (zw p) else .c (vt (zi p) q.1 q.2)
def zEt(p:Pl)(q:Nat×Nat):pwP (zor p q)=yb p q:=by
 unfold zor yb
 split <;> rfl
def zyn(p:Pl)(l:List (Nat×Nat)):(l.map (zor p)).map pwP=l.map (yb p):=by
 rw[Yu];exact KW λq _=>zEt p q
def zjO{pen:Pen}{long:Int}:∀q∈kV pen long,q.1<q.2/\(q.2:Int)<=long/\1<=long:=by
 intro q a;unfold kV at a
 split at a
 .cases a
 rename_i h;have b:¬long<1:=λk=>h (.inr (.inl k))
 split at a
 .have:=Xt.1 a;subst this;dsimp only;omega
 have:=zlS q a;omega
def zgB(p:Pl)(c:p.pts.length<=4096):0<=zM p/\zM p<=17596481011712:=by
 have h:=zak (zi p) ((zi p).length-1);have a:=jQ (zw p);have b:=jB p;rw[←yP]at a;unfold zM;omega
def zsJ{p:Pl}(h:1<=zM p):2<=(zi p).length:=by
 refine Ja λk=>?_
 have:=zsa (p:=p) oM;omega
def zfv{p:Pl}{pen:Pen}{q:Nat×Nat}(c:p.pts.length<=4096)(h:q∈kV pen (zM p)):0<(yb p q).pts.length/\(yb p q).pts.length<=4100:=by
 obtain⟨_,_,a⟩:=zjO q h;have b:=zsJ a;have ll:=jQ (zw p);have dl:=jB p;rw[←yP]at ll;unfold yb
 split
 .rename_i k
  have:(zw p).pts.length≠0:=λe=>by
   have:=zb6 (q:=zw p) oM;rw[←yP]at this;omega
  omega
 have:=zqe (zi p) q.1 q.2;dsimp only;omega
def zhL(a b:LZ):jy (a++b)=jy a+jy b:=by unfold jy;simp
def zfw:∀{l:LZ},(∀x∈l,0<x.pts.length)->l.length<=jy l
 |[],_=>Xh _
 |x::r,h=>by
  have b:=h x (.head _);have c:=zfw (l:=r) λy a=>h y (.tail _ a)
  have e:jy (x::r)=x.pts.length+jy r:=by unfold jy;simp
  rw[e,Xm];omega
def zgC(p:Pl)(pen:Pen)(j:Nat):Nat:=jy (((kV pen (zM p)).take j).map (yb p))
def zyo{p:Pl}{pen:Pen}{j:Nat}{y:Nat×Nat}(h:(kV pen (zM p))[j]?=some y):zgC p pen (j+1)=zgC p pen j+(yb p y).pts.length:=by
 unfold zgC;rw[Xn,h,Xz,zhL];show _+jy [yb p y]=_;unfold jy;simp
def zEu(p:Pl)(pen:Pen)(j:Nat):zgC p pen j<=jy ((kV pen (zM p)).map (yb p)):=by
 have e:(kV pen (zM p)).map (yb p)=((kV pen (zM p)).take j).map (yb p)++((kV pen (zM p)).drop j).map (yb p):=by
  rw[←Xz,Ku]
 rw[e,zhL];exact Q8 _ _
def zEv{p:Pl}{pen:Pen}(a:p.pts.length<=4096)(j:Nat):((kV pen (zM p)).take j).length<=zgC p pen j:=by
 have:=zfw (l:=((kV pen (zM p)).take j).map (yb p)) λx c=>by
  obtain⟨q,b,rfl⟩:=XK.1 c;exact(zfv a (XP b)).1
 rwa [Xv]at this
def dM(p:Pl)(pen:Pen)(j:Nat):LT:=
 [(0,.box 191 [.sl ptE p.pts,pr (p.cl=true)]),(1,.box 184 [nS]),(2,.box 42 [i64 0]),(3,.box 268 (meE (meQ (zw p)))),
  (4,.box 184 [.own 6]),(5,.box 3 [i64 (zgC p pen j:Int)]),(6,.arr 191 pwE 2 (((kV pen (zM p)).take j).map (zor p)))]
def dB(p:Pl):LT:=
 [(0,.box 191 [.sl ptE p.pts,pr (p.cl=true)]),(1,.box 184 [nS]),(2,.box 42 [i64 0]),(3,.box 268 (meE (meQ (zw p)))),
  (4,.box 184 [.sl ptE (List.replicate 9223372036854775808 zp)]),(5,.box 3 [i64 4097])]
def dS(p:Pl)(pen:Pen)(j:Nat):LT:=if zgC p pen j<=4096 then dM p pen j else dB p
def zwl{S Pm:LI}{Z:zh}{w:World}{v:Value}:¬G S Pm Z w (.sl ptE (List.replicate 9223372036854775808 zp)) v:=λe=>by
 have key:∀{xs:LU} {u:Value},D S w (.sl ptE xs) u->xs.length<=9223372036854775807:=λd=>by
  cases d with
  |nil=>decide
  |sl _ _ sz b o cap c f hS a=>exact a
 have:=key e.sl_inv;rw[Ks]at this;omega
def zEw{a s:SV}:LE (.tup [.sl ptE (List.replicate 9223372036854775808 zp),a]) s:=λS Pm Z w v c=>by
 cases c with
 |d _ _ b=>cases b
 |tup g vs e h=>
  obtain⟨u,f⟩:∃u,vs[0]?=some u:=⟨_,Xb (by rw[e];exact YZ 1)⟩;exact absurd (h 0 _ u rfl f) zwl
def dS_pf(p:Pl)(pen:Pen)(j:Nat):zl1 (dS p pen j):=by
 unfold dS
 split
 .intro k m a;unfold dM at a;simp only[XA,XW,or_false,KN]at a
  obtain⟨_,rfl⟩|⟨_,rfl⟩|⟨_,rfl⟩|⟨_,rfl⟩|⟨_,rfl⟩|⟨_,rfl⟩|⟨_,rfl⟩:=a
  all_goals first|rfl|trivial
 intro k m a;unfold dB at a;simp only[XA,XW,or_false,KN]at a
 obtain⟨_,rfl⟩|⟨_,rfl⟩|⟨_,rfl⟩|⟨_,rfl⟩|⟨_,rfl⟩|⟨_,rfl⟩:=a
 all_goals first|rfl|trivial
def zBL(p:Pl)(pen:Pen)(l:p.pts.length<=4096):CX 179 [wv p,ws pen] (zp4 (jH p pen)):=by
 refine vn 3 tok mix func179 rfl rfl rfl ?_
 have i:jH p pen=if¬kF pen then([],13) else if¬∀q∈p.pts,zm q then([],6) else if 4096<p.pts.length then([],5)
  else if pen.d=[] then([zw p],0) else if 4096<jy ((kV pen (zM p)).map (yb p)) then([],5) else((kV pen (zM p)).map (yb p),0):=rfl
 refine wg (zfi pen)<|⟨λk=>?_,λk=>?_⟩
 .have k:¬kF pen:=k;exact jA (by rw[i,Xe k])
 have k:kF pen:=Xa.1 k;rw[kI k]at i
 by_cases ok:∀q∈p.pts,zm q
 rotate_left
 .refine wg (zoo p l)<|⟨λ_=>?_,λh=>absurd (Xa.1 h) ok⟩;exact jA (by rw[i,Xe ok])
 rw[kI ok,Xc (show¬4096<p.pts.length by omega)]at i;have hM:=zoo p l;rw[zEr ok]at hM;refine wg hM<|Br.mk (λh=>absurd ok h) (λ_=>?_);intro G;refine⟨λh=>absurd (show(4096:Int)<p.pts.length from h) oM,λ_=>?_⟩;intro I;refine⟨λz:(pen.d.length:Int)=0=>?_,λz:¬(pen.d.length:Int)=0=>?_⟩
 .have z:pen.d=[]:=Xq oM;refine wg (zhF p l)<|⟨Pl,plE,[zw p],rfl,wb0 ?_⟩;rw[i,Xe z];exact .refl
 rw[Xc (λh=>z (by rw[h];rfl))]at i;have lr:=zgB p l;refine wg (p_on pen (zM p))<|⟨Nat×Nat,runE,kV pen (zM p),6,[(2,.loc 0 0),(4,.loc 1 0),(5,.loc 2 0),(6,.loc 3 0),(8,.loc 4 0),(9,.loc 5 0)],dS p pen,λ_=>7,zEq pen (zM p) oM,λ_=>rfl,⟨rfl,rfl,rfl,rfl⟩,?_,⟨Xh _,rfl⟩,dS_pf p pen,?_,?_⟩
 .rw[show dS p pen 0=dM p pen 0 from Xe (Xh _)];exact zB [(0,some 0),(1,some 2),(2,some 3),(3,some 4),(4,some 5),(5,some 6),(6,none)]
 .intro j y B _;have e:=Xf B;obtain⟨K,L,J⟩:=zjO y e;have A:=zyo B;have cle:=zEu p pen (j+1);have dp:=zfv l e;have g:4096<zgC p pen (j+1)->jH p pen=([],5):=λh=>by rw[i,Xe oM]
  have dl:=jB p;have ll:=jQ (zw p);rw[←yP]at ll;have D:=zsJ J;have E:p.cl=true->(y.1:Int)=0->(y.2:Int)=zM p->zor p y=.d (zw p)/\(yb p y).pts=(zw p).pts:=λa b c=>⟨Xe ⟨a,oM,c⟩,Xg Pl.pts (Xe ⟨a,oM,c⟩)⟩
  have F:¬(p.cl=true/\(y.1:Int)=0/\(y.2:Int)=zM p)->zor p y=.c (vt (zi p) y.1 y.2)/\(yb p y).pts=vt (zi p) y.1 y.2:=λh=>
   ⟨Xc λk=>h ⟨k.1,oM,k.2.2⟩,Xg Pl.pts (Xc λk=>h ⟨k.1,oM,k.2.2⟩)⟩
  by_cases t:zgC p pen j<=4096
  .rw[show dS p pen j=dM p pen j from Xe t];have cg:=zEv (pen:=pen) l j;refine⟨λc=>Br.mk (λc1=>Br.mk (λr=>?_) (λr=>?_)) (λc1=>?_),λc=>?_⟩
   .obtain⟨x,s⟩:=E c c1 r;rw[s]at A dp;refine wg (zhF p l) λu=>wa<|Br.mk (λo=>?_) (λo=>?_)
    .have o:(4096:Int)<(zgC p pen j:Int)+((zw p).pts.length:Int):=o;refine⟨[(1,.box 184 [nS]),(2,.box 42 [i64 5])],6,zf [0,1,2,3,4,5],λk m e=>?_,jA (g oM)⟩;simp only[XA,XW,or_false,KN]at e
     obtain⟨_,rfl⟩|⟨_,rfl⟩:=e <;> rfl
    have o:¬(4096:Int)<(zgC p pen j:Int)+((zw p).pts.length:Int):=o;refine⟨Pw,pwE,[.d (zw p)],rfl,wb3 ?_⟩;refine⟨[.d (zw p)],rfl,wb25 ?_⟩;rw[show dS p pen (j+1)=dM p pen (j+1) from Xe oM];refine zt [0,1,2,3,4,5,9] ⟨rfl,rfl,rfl,rfl,rfl,Xg (λn=>some (Mem.box 3 [i64 n])) oM,aR ?_,tV⟩;rw[Xn,B,Xz,←x];rfl
   all_goals
    have v:¬(p.cl=true/\(y.1:Int)=0/\(y.2:Int)=zM p):=by
     first
     |exact λh=>r h.2.2
     |exact λh=>c1 h.2.1
     |exact λh=>c h.1
    obtain⟨x,s⟩:=F v;rw[s]at A dp;have f:CX 251 [.agg (meE (meQ (zw p))),i64 (y.1:Int),i64 (y.2:Int)] (.sl ptE (vt (zi p) y.1 y.2)):=zFZ (zw p) y.1 y.2 oM D ⟨oM,oM⟩ ⟨oM,oM⟩;refine wg f λu=>wa<|Br.mk (λo=>?_) (λo=>?_)
    .have o:(4096:Int)<(zgC p pen j:Int)+((vt (zi p) y.1 y.2).length:Int):=o;refine⟨[(1,.box 184 [nS]),(2,.box 42 [i64 5])],6,zf [0,1,2,3,4,5],λk m e=>?_,jA (g oM)⟩;simp only[XA,XW,or_false,KN]at e
     obtain⟨_,rfl⟩|⟨_,rfl⟩:=e <;> rfl
    have o:¬(4096:Int)<(zgC p pen j:Int)+((vt (zi p) y.1 y.2).length:Int):=o;refine⟨Pw,pwE,[.c (vt (zi p) y.1 y.2)],rfl,wb3 ?_⟩;refine⟨[.c (vt (zi p) y.1 y.2)],rfl,wb25 ?_⟩;rw[show dS p pen (j+1)=dM p pen (j+1) from Xe oM];refine zt [0,1,2,3,4,5,9] ⟨rfl,rfl,rfl,rfl,rfl,Xg (λn=>some (Mem.box 3 [i64 n])) oM,aR ?_,tV⟩;rw[Xn,B,Xz,←x];rfl
  rw[show dS p pen j=dB p from Xc t];refine⟨λc=>Br.mk (λc1=>Br.mk (λr=>?_) (λr=>?_)) (λc1=>?_),λc=>?_⟩
  .obtain⟨x,s⟩:=E c c1 r;rw[s]at A dp;refine wg (zhF p l) λu=>wa<|Br.mk (λo=>?_) (λo=>absurd (show(4096:Int)<4097+((zw p).pts.length:Int) by omega) o);refine⟨[(1,.box 184 [nS]),(2,.box 42 [i64 5])],6,zf [0,1,2,3,4,5],λk m e=>?_,jA (g oM)⟩;simp only[XA,XW,or_false,KN]at e
   obtain⟨_,rfl⟩|⟨_,rfl⟩:=e <;> rfl
  all_goals
   have v:¬(p.cl=true/\(y.1:Int)=0/\(y.2:Int)=zM p):=by
    first
    |exact λh=>r h.2.2
    |exact λh=>c1 h.2.1
    |exact λh=>c h.1
   obtain⟨x,s⟩:=F v;rw[s]at A dp;have f:CX 251 [.agg (meE (meQ (zw p))),i64 (y.1:Int),i64 (y.2:Int)] (.sl ptE (vt (zi p) y.1 y.2)):=zFZ (zw p) y.1 y.2 oM D ⟨oM,oM⟩ ⟨oM,oM⟩;refine wg f λu=>wa<|Br.mk (λo=>?_) (λo=>absurd (show(4096:Int)<4097+((vt (zi p) y.1 y.2).length:Int) by omega) o);refine⟨[(1,.box 184 [nS]),(2,.box 42 [i64 5])],6,zf [0,1,2,3,4,5],λk m e=>?_,jA (g oM)⟩;simp only[XA,XW,or_false,KN]at e
   obtain⟨_,rfl⟩|⟨_,rfl⟩:=e <;> rfl
 intro _
 by_cases t:zgC p pen (kV pen (zM p)).length<=4096
 .rw[show dS p pen (kV pen (zM p)).length=dM p pen (kV pen (zM p)).length from Xe t];have C:(kV pen (zM p)).take (kV pen (zM p)).length=kV pen (zM p):=Kc;unfold zgC at t;rw[C]at t;rw[i,Xc oM];refine zP ((LE_pw _).trans (z6 ?_)) .refl;rw[zyn,C]
 rw[show dS p pen (kV pen (zM p)).length=dB p from Xc t];exact zEw
def zwm(l:LU):CX 229 [.sl ptE l] (pr (∀p∈l,zm p)):=by
 refine zc func229<|⟨Nat,λi=>⟨[(0,.sl ptE l),(3,i64 i)],[],0,16,0⟩,λi=>i<=l.length/\∀p∈l.take i,zm p,λi=>l.length-i,0,?_,?_,?_⟩
 .exact⟨Xh _,λp a=>by cases a⟩
 .exact zB []
 rintro i ⟨f,c⟩
 intro e;refine⟨λg:(i:Int)<l.length=>?_,λg:¬(i:Int)<l.length=>?_⟩
 .refine wb λx(d:l[i]?=some x)=>?_;refine wg (ki x)<|⟨λb=>zd λk=>b (k x (Xf d)),λb=>?_⟩;have b:=Xa.1 b;refine wa<|⟨i+1,⟨oM,λp a=>?_⟩,zB [],oN⟩;rw[Xn,d]at a
  rcases Xu.1 a with a|a
  .exact c p a
  simp at a;rw[a];exact b
 rw[Xi oM]at c;exact zH c
def zwn(a b:Pt):CX 291 [wk a,wk b] (i64 (jp a b)):=by
 exact zc func291<|wg (znR b a)<|wg (zAG (zae b a))<|.refl
def zBM(p:Pl)(j:p.pts.length<=4096):CX 290 [wv p] (.sl ptE (zi p)):=by
 refine zc func290 ?_;have dl:=jB p;refine wg (zko p j)<|⟨Pt,ptE,[],rfl,wb2 ?_⟩;refine⟨Nat,λi=>⟨[(3,.loc 0 0),(4,.own 1),(5,i64 i)],[(0,.box 191 (plE (zw p))),(1,.arr 28 ptE 2 ((zw p).pts.take i))],2,40,0⟩,λi=>i<=(zw p).pts.length,λi=>(zw p).pts.length-i,0,?_,?_,?_⟩
 .exact Xh _
 .exact zf [1,2]
 rintro i hi
 intro e;refine⟨λg:(i:Int)<(zw p).pts.length=>?_,λg:¬(i:Int)<(zw p).pts.length=>?_⟩
 .refine wb λx(a:(zw p).pts[i]?=some x)=>?_;refine⟨Pt,ptE,[x],rfl,wb0 ?_⟩;refine⟨[x],rfl,wb15 ?_⟩;exact wa<|⟨i+1,oM,zt [0,3] ⟨rfl,aR (by rw[Xn,a];rfl),tV⟩,oN⟩
 have d:(zw p).pts.take i=(zw p).pts:=Xi oM;have no:¬((zw p).cl=true/\2<=(zw p).pts.length)->LE (.sl ptE ((zw p).pts.take i)) (.sl ptE (zi p)):=λh=>z6 (by rw[d,yP,zqa h])
 refine⟨λc=>?_,λc=>no λh=>c h.1⟩;have c:(zw p).cl=true:=c;intro f;refine⟨λb=>?_,λb=>no λh=>b (show(2:Int)<=(zw p).pts.length by have:=h.2;omega)⟩;have b:(2:Int)<=(zw p).pts.length:=b;refine wb λx a=>?_;have a:=qx (show(zw p).pts[0]?=some x from a);refine⟨Pt,ptE,[x],rfl,wb0 ?_⟩;refine⟨[x],rfl,wb15 ?_⟩;exact z6 (by rw[d,yP,zhJ c oM,a])
def zsK(p:Pl)(d:p.pts.length<=4096)(ok:∀q∈p.pts,zm q):CX 230 [wv p] (i64 (zM p)):=by
 refine zc func230 ?_;have dl:=jB p;have ll:=jQ (zw p);rw[←yP]at ll;refine wg (zBM p d)<|⟨Nat,λi=>⟨[(1,.loc 0 0),(3,i64 (atS (zi p) i)),(4,.sl ptE (zi p)),(5,i64 ((i:Int)+1))],[(0,.box 191 [.sl ptE p.pts,pr (p.cl=true)])],1,32,0⟩,λi=>i<=(zi p).length-1,λi=>(zi p).length-i,0,?_,?_,?_⟩
 .exact Xh _
 .exact zf [0]
 rintro i hi
 have ar:=zak (zi p) i;intro c;refine⟨λg=>?_,λg=>?_⟩;rotate_left
 .have g:¬(i:Int)+1<(zi p).length:=g;exact ze (by unfold zM;rw[show i=(zi p).length-1 by omega])
 have g:(i:Int)+1<(zi p).length:=g;refine wg (zwm p.pts)<|⟨λ_=>?_,λh=>absurd ok h⟩;refine wc<|wa<|wb λx a=>?_
 have a:=qx (show(zi p)[i]?=some x by
  have a:(zi p)[((i:Int)+1-1).toNat]?=some x:=a
  rwa [show((i:Int)+1-1).toNat=i by omega]at a)
 refine wb λy b=>?_;have b:=qx (show(zi p)[i+1]?=some y from b);refine wg (zwn x y) ?_;have pc:=yD x y;(iterate 2 refine wa ?_);exact⟨i+1,oM,zQ [0] ⟨rfl,iR (by rw[a,b];rfl),rfl,iR oM,tV⟩ ⟨rfl,tV⟩,oN⟩
def zF0(d:LV)(f:uG d):CX 292 [.sl zN d] (.tup [i64 (qK d),i64 (drawn d)]):=by
 refine zc func292 ?_;obtain⟨b,e,n,o⟩:=ym f;refine⟨Nat,λi=>⟨[(0,.sl zN d),(4,i64 (qF d i)),(5,i64 (256*ve 0 d i)),(6,i64 i)],[],0,32,0⟩,λi=>i<=d.length,λi=>d.length-i,0,?_,?_,?_⟩
 .exact Xh _
 .exact zB []
 rintro i hi
 have j:=zeD b hi;have k:=zb7 d i hi;have p:=yl (r:=0) b i hi;have q1:=yl (r:=1) b i hi;intro h;refine⟨λg:(i:Int)<d.length=>?_,λg:¬(i:Int)<d.length=>?_⟩
 .refine wb λx(a:d[i]?=some x)=>?_;have l:=b x (Xf a);have m:=e x (Xf a);(iterate 2 refine wa ?_);refine Dv.pos ⟨oM,dC⟩<|⟨λev=>?_,λev=>?_⟩
  .have ev:(i:Int)%2=0:=ev;refine wb λx' c=>?_;have ex:x'=x:=Xl ((show d[i]?=some x' from c).symm.trans a);rw[ex];(iterate 3 refine wa ?_);exact⟨i+1,oM,jv [] ⟨rfl,iR (yw a).symm,iR (by rw[zft a oM];omega),rfl,tV⟩ trivial,oN⟩
  have ev:¬(i:Int)%2=0:=ev;exact wa<|⟨i+1,oM,jv [] ⟨rfl,iR (yw a).symm,iR (by rw[zi4 oM]),rfl,tV⟩ trivial,oN⟩
 have ei:i=d.length:=oM;exact zP (ze (by rw[ei,yO])) (ze (by rw[ei];rfl))
def zHz(pen:Pen)(t:Nat)(f:kF pen)(hper:0<qK pen.d)(ht:(t:Int)<=70368744177664):CX 293 [ws pen,i64 t] (.tup [i64 ((yC pen.d (phD pen t) 0).1:Int),i64 (yC pen.d (phD pen t) 0).2]):=by
 refine zc func293 ?_;obtain⟨e,m,v,z⟩:=ym f.2.2.2.2.1;have o:=f.2.2.2.2.2;refine wg (zF0 pen.d f.2.2.2.2.1) ?_;have A:=Kj (256*pen.ph) (show qK pen.d≠0 by omega);have B:=Kg (256*pen.ph) hper;have C:=Kj (t:Int) (show qK pen.d≠0 by omega);have D:=Kg (t:Int) hper;have l:=Kj ((t:Int)%qK pen.d+256*pen.ph%qK pen.d) (show qK pen.d≠0 by omega);have u:=Kg ((t:Int)%qK pen.d+256*pen.ph%qK pen.d) hper;refine wc ?_
 refine Dv.pos ⟨oM,oM⟩<|wa<|Dv.pos ⟨oM,oM⟩<|wa<|Dv.pos ⟨oM,oM⟩ ?_;have ek:phD pen t=((t:Int)%qK pen.d+256*pen.ph%qK pen.d)%qK pen.d:=rfl;rw[←ek]at l u;refine⟨Nat,λi=>⟨[(2,.loc 0 0),(8,i64 (phD pen t-qF pen.d i)),(9,i64 i)],[(0,.box 55 (jb pen))],1,59,0⟩,λi=>i<=pen.d.length/\qF pen.d i<=phD pen t,λi=>pen.d.length-i,0,?_,?_,?_⟩
 .exact⟨Xh _,by rw[uy];exact l⟩
 .exact zQ [0] ⟨rfl,iR (by rw[uy,Int.sub_zero];exact ek.symm),rfl,tV⟩ ⟨rfl,tV⟩
 rintro i ⟨hi,j⟩
 have p:=zeD e hi;intro n;refine⟨λg:(i:Int)<pen.d.length=>?_,λg:¬(i:Int)<pen.d.length=>?_⟩
 .refine wb λx(b:pen.d[i]?=some x)=>?_;have same:∀y,pen.d[(i:Int).toNat]?=some y->y=x:=λy h=>Xl ((show pen.d[i]?=some y from h).symm.trans b)
  have r:=e x (Xf b);have s:=m x (Xf b);have q:=yw b;refine wa<|Br.mk (λc=>?_) (λc=>?_)
  .have c:phD pen t-qF pen.d i<256*x:=c;have k:=zfn (i0:=0) e b j oM;refine wc<|wb λx' a=>?_;rw[same x' a];(iterate 2 refine wa ?_);refine zP (ze ?_) (ze ?_)
   .rw[k];show(i:Int)=((0+i:Nat):Int);omega
   rw[k];dsimp only;omega
  have c:¬phD pen t-qF pen.d i<256*x:=c;refine wb λx' a=>?_;rw[same x' a];(iterate 3 refine wa ?_);exact⟨i+1,⟨oM,oM⟩,zQ [0] ⟨rfl,iR (by rw[q];omega),rfl,tV⟩ ⟨rfl,tV⟩,oN⟩
 have:qF pen.d i=qK pen.d:=by rw[show i=pen.d.length by omega,yO]
 omega
end Go.Gs
