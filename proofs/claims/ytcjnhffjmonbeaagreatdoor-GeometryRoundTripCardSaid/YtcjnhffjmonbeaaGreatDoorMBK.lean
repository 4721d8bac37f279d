/- errors.As at the error of a node ('wrong'), by the kit's walk: nil; the error's own type is the target's. -/
import Derived.Test.YtcjnhffjmonbeaaGreatDoorMA
import Derived.Test.YtcjnhffjmonbeaaGreatDoorMAQ
import Derived.WalkKit
import Derived.LaidEql
import Derived.Stop.Asserts
import Derived.RowKitTokens
import Derived.Test.YtcjnhffjmonbeaaGreatDoorMAR
import Derived.Deep.Slices
import Derived.Deep.Fields
import Derived.ChangeSame
import Derived.Lib.SmallJoins
import Derived.ProofKit
import Derived.OpenShut
import Derived.Carry
import Derived.Test.YtcjnhffjmonbeaaGreatDoorMBH
import Derived.Test.YtcjnhffjmonbeaaGreatDoorMBI
set_option maxRecDepth 100000
set_option maxHeartbeats 8000000
set_option linter.all false
namespace Go.Gs
open Go.Proofs Go.RowKit Go.Extern.Stop Go.Stop Go.Extern
theorem zu0(t:Value)(w:World):Calls Tryz.prog 167 #[.nilIface,t] w fun e w'=>e=.returned (.bool false)/\w'=w:=by
 go_enter Tryz.func167,Tryz.ntmps167
 go_wp2
 go_ret
 exact ⟨rfl,rfl⟩
theorem zuT(t:Addr)(w:World):(ReflectliteValue.unpack (.iface 192 (.pointer (some t)))).run Tryz.prog w
  =.ok (.agg #[.pointer (some ⟨3,192,none⟩),.pointer (some ⟨w.heap.size,0,none⟩),.int .u64 150]) (w.alloc (.cells #[.pointer (some t)] 192)):=by kernel_rfl
theorem zu6(a:Addr)(w:World):(ReflectliteValue.methodAny (ReflectliteValue.valueError "reflectlite.Value.Type" 0) (fun t _ _ _=>ReflectliteType.toType t) #[.agg #[.pointer (some ⟨3,192,none⟩),.pointer (some a),.int .u64 150]]).run Tryz.prog w
  =.ok (.iface 284 (.agg #[.pointer (some ⟨3,192,none⟩)])) w:=by kernel_rfl
theorem zuQ(h:Value)(w:World):(Go.method 485 284 (.agg #[h]) "Kind").run Tryz.prog w=.ok (386,h) w:=by kernel_rfl
theorem zu7(w:World):((ReflectliteType.abiMethod fun t=>(fun a:Nat=>Value.int IntKind.u8 (a:Int)) <$> Rtype.kind t) #[.pointer (some ⟨3,192,none⟩)]).run Tryz.prog w=.ok (.int .u8 22) w:=by kernel_rfl
theorem zu8(w:World):((ReflectliteType.abiMethod fun t=>(fun a:Nat=>Value.int IntKind.u8 (a:Int)) <$> Rtype.kind t) #[.pointer (some ⟨3,190,none⟩)]).run Tryz.prog w=.ok (.int .u8 25) w:=by kernel_rfl
theorem zu9(z:Sem Value)(f:TypeId->Addr->Nat->Nat->Sem Value)(v:Value):
  ReflectliteValue.method z f #[v]=(do match ← ReflectliteValue.parts v with | none=>z | some (t,a,fl)=>f t a fl (fl % 32)):=rfl
theorem zuS(a:Addr)(w:World):(ReflectliteValue.parts (.agg #[.pointer (some ⟨3,192,none⟩),.pointer (some a),.int .u64 150])).run Tryz.prog w=.ok (some (192,a,150)) w:=by kernel_rfl
theorem zu1(a p:Addr)(W:World)(ha:W.cell? a=some (.pointer (some p))):
  (ReflectliteValue.method (ReflectliteValue.valueError "reflectlite.Value.IsNil" 0) ReflectliteValue.isNil #[.agg #[.pointer (some ⟨3,192,none⟩),.pointer (some a),.int .u64 150]]).run Tryz.prog W=.ok (.bool false) W:=by
 rw [zu9];simp only [Sem.run_bind,zuS,Result.andThen];simp [ReflectliteValue.isNil,loadVar,isAgg,underlying,Tryz.underlying192,ha,Result.andThen]
theorem zuR(h:Value)(w:World):(Go.method 485 284 (.agg #[h]) "Elem").run Tryz.prog w=.ok (397,.agg #[h]) w:=by kernel_rfl
theorem zuN(h:Value)(w:World):(Go.method 485 284 (.agg #[h]) "Implements").run Tryz.prog w=.ok (398,.agg #[h]) w:=by kernel_rfl
theorem zuM(h:Value)(w:World):(Go.method 485 284 (.agg #[h]) "AssignableTo").run Tryz.prog w=.ok (395,.agg #[h]) w:=by kernel_rfl
theorem zva(w:World):(ReflectliteType.method ReflectliteType.elem #[.agg #[.pointer (some ⟨3,192,none⟩)]]).run Tryz.prog w=.ok (.iface 284 (.agg #[.pointer (some ⟨3,190,none⟩)])) w:=by kernel_rfl
theorem zuO(w:World):(ReflectliteType.relation "Implements" ReflectliteType.implements_ #[.agg #[.pointer (some ⟨3,190,none⟩)],.iface 284 (.agg #[.pointer (some ⟨3,187,none⟩)])]).run Tryz.prog w=.ok (.bool true) w:=by kernel_rfl
theorem zuW(v:Value)(w:World):(ReflectliteType.typeOf #[.iface 190 v]).run Tryz.prog w=.ok (.iface 284 (.agg #[.pointer (some ⟨3,190,none⟩)])) w:=by kernel_rfl
theorem zuP(w:World):(ReflectliteType.relation "AssignableTo" ReflectliteType.assignableTo #[.agg #[.pointer (some ⟨3,190,none⟩)],.iface 284 (.agg #[.pointer (some ⟨3,190,none⟩)])]).run Tryz.prog w=.ok (.bool true) w:=by kernel_rfl
theorem zuU(c u:Value)(w:World):(ReflectliteValue.unpack (.iface 190 (.agg #[c,u]))).run Tryz.prog w
  =.ok (.agg #[.pointer (some ⟨3,190,none⟩),.pointer (some ⟨w.heap.size,0,none⟩),.int .u64 153]) (w.alloc (.cells #[c,u] 190)):=by kernel_rfl
theorem zuX(w:World):(Rtype.elem? 192).run Tryz.prog w=.ok (some 190) w:=by kernel_rfl
theorem zvd(p:Addr)(w:World):(ReflectliteValue.mk 190 p ReflectliteValue.flagAddr).run Tryz.prog w=.ok (.agg #[.pointer (some ⟨3,190,none⟩),.pointer (some p),.int .u64 409]) w:=by kernel_rfl
theorem zu2(a p:Addr)(W:World)(ha:W.cell? a=some (.pointer (some p))):
  (ReflectliteValue.method (ReflectliteValue.valueError "reflectlite.Value.Elem" 0) ReflectliteValue.elem #[.agg #[.pointer (some ⟨3,192,none⟩),.pointer (some a),.int .u64 150]]).run Tryz.prog W
   =.ok (.agg #[.pointer (some ⟨3,190,none⟩),.pointer (some p),.int .u64 409]) W:=by
 rw [zu9];simp only [Sem.run_bind,zuS,Result.andThen];simp [ReflectliteValue.elem,loadVar,isAgg,underlying,Tryz.underlying192,ha,Result.andThen,zuX,zvd]
theorem zve(v x:Value):ReflectliteValue.set #[v,x]=(do
  let (some (dst,a,fl),some (src,b,_)):=(← ReflectliteValue.parts v,← ReflectliteValue.parts x)
   | unsupported (.noEntry "extern/(internal/reflectlite.Value).Set.zeroValue")
  if fl / ReflectliteValue.flagAddr % 2==0 then unsupported (.noEntry "extern/(internal/reflectlite.Value).Set.unaddressable")
  let val ← loadVar src b
  if ← Rtype.directlyAssignable dst src then storeVar dst a val
  else if ← Rtype.implements dst src then
   if (← Rtype.kind src)==20 then
    match val with
    | .nilIface=>unsupported (.noEntry "extern/reflectlite: a nil value of one interface type handed on as a value of another")
    | _=>storeVar dst a val
   else storeVar dst a (.iface src val)
  else panicString ("reflectlite.Set: value of type " ++(← Rtype.spelt src)++ " is not assignable to type " ++(← Rtype.spelt dst))
  pure (.tuple #[])):=rfl
theorem zuY(a:Addr)(w:World):(ReflectliteValue.parts (.agg #[.pointer (some ⟨3,190,none⟩),.pointer (some a),.int .u64 409])).run Tryz.prog w=.ok (some (190,a,409)) w:=by kernel_rfl
theorem zu3(a:Addr)(w:World):(ReflectliteValue.parts (.agg #[.pointer (some ⟨3,190,none⟩),.pointer (some a),.int .u64 153])).run Tryz.prog w=.ok (some (190,a,153)) w:=by kernel_rfl
theorem zuZ(w:World):(Rtype.directlyAssignable 190 190).run Tryz.prog w=.ok true w:=by kernel_rfl
theorem zuV:∃i,ti tt 190=some i/\i.sz=2/\i.kind.agg=true:=⟨_,rfl,rfl,rfl⟩
theorem zvb(c u:Value)(s:Nat)(W:World)(h:W.heap[s]? =some (.cells #[c,u] 190 (0,0))):
  (loadVar 190 ⟨s,0,none⟩).run Tryz.prog W=.ok (.agg #[c,u]) W:=by
 obtain ⟨i,hi,hs,ha⟩:=zuV;have hT:=tok _ i hi
 have hl:=run_loadCells_list (P:=Tryz.prog) W ⟨s,0,none⟩ [c,u] (fun j v hv=>by
  rw [qU]
  match j,hv with
  | 0,hv=>cases hv;simp [World.cell?,h]
  | 1,hv=>cases hv;simp [World.cell?,h]
  | j+2,hv=>simp at hv)
 unfold loadVar;rw [Sem.run_bind,hT.agg W,Result.andThen_ok,ha];simp only [if_true,Sem.run_bind,hT.size,Result.andThen_ok,hs];simp at hl;simp [hl]
theorem zu4(c u:Value)(b:Nat)(cur:Array Value)(W:World)(hc:cur.size=2)(h:W.heap[b]? =some (.cells cur 190 (0,0)))(h1:c.oneCell'=true)(h2:u.oneCell'=true):
  (storeVar 190 ⟨b,0,none⟩ (.agg #[c,u])).run Tryz.prog W=.ok () (W.setRow b #[c,u]):=by
 obtain ⟨i,hi,hs,ha⟩:=zuV
 have:=y5 (tok _ i hi) (v:=.agg #[c,u]) (off:=0) h (by rw [hs];rfl) (by rw [hs,hc];decide) (fun x hx=>by
  have hx:x∈[c,u]:=hx;simp only [List.mem_cons,List.not_mem_nil,or_false] at hx
  rcases hx with rfl | rfl <;> assumption)
 rw [this,List.drop_eq_nil_of_le (by simp [hs,hc]:cur.toList.length<=0+i.sz),List.take_zero,List.nil_append,List.append_nil];rfl
theorem zvc (b s:Nat) (c u:Value) (cur:Array Value) (W:World) (hs:W.heap[s]? =some (.cells #[c,u] 190 (0,0))) (hc:cur.size=2)
  (hb:W.heap[b]? =some (.cells cur 190 (0,0))) (h1:c.oneCell'=true) (h2:u.oneCell'=true):
  (ReflectliteValue.set #[.agg #[.pointer (some ⟨3,190,none⟩),.pointer (some ⟨b,0,none⟩),.int .u64 409],.agg #[.pointer (some ⟨3,190,none⟩),.pointer (some ⟨s,0,none⟩),.int .u64 153]]).run Tryz.prog W
   =.ok (.tuple #[]) (W.setRow b #[c,u]):=by
 rw [zve];simp only [Sem.run_bind,zuY,zu3,Result.andThen];simp [ReflectliteValue.flagAddr,zvb c u s W hs,zuZ,zu4 c u b cur W hc hb h1 h2,Result.andThen]
theorem zu5 (b:Nat) (c u:Value) (cur:Array Value) (w:World) (hg:w.cell? ⟨0,0,none⟩=some (.iface 284 (.agg #[.pointer (some ⟨3,187,none⟩)]))) (hc:cur.size=2)
  (hb:w.heap[b]? =some (.cells cur 190 (0,0))) (h1:c.oneCell'=true) (h2:u.oneCell'=true):
  Calls Tryz.prog 167 #[.iface 190 (.agg #[c,u]),.iface 192 (.pointer (some ⟨b,0,none⟩))] w fun ev w'=>ev=.returned (.bool true)/\w'=((((w.alloc (.cells #[.pointer (some ⟨b,0,none⟩)] 192)).alloc (.cells #[.pointer (some ⟨3,192,none⟩),.pointer (some ⟨w.heap.size,0,none⟩),.int .u64 150] 237)).alloc (.cells #[.pointer (some ⟨3,192,none⟩),.pointer (some ⟨w.heap.size,0,none⟩),.int .u64 150] 237)).alloc (.cells #[c,u] 190)).setRow b #[c,u]:=by
 have hV:=@run_callFunc_extern Tryz.prog 221 _ (fun args=>ReflectliteValue.unpack (args.getD 0 (.tuple #[]))) Tryz.func221 (by kernel_rfl) (by kernel_rfl) (by kernel_rfl) (by kernel_rfl);have hTy:=@run_callFunc_extern Tryz.prog 222 _ (ReflectliteValue.methodAny (ReflectliteValue.valueError "reflectlite.Value.Type" 0) (fun t _ _ _=>ReflectliteType.toType t)) Tryz.func222 (by kernel_rfl) (by kernel_rfl) (by kernel_rfl) (by kernel_rfl)
 have hN:=@run_callFunc_extern Tryz.prog 223 _ (ReflectliteValue.method (ReflectliteValue.valueError "reflectlite.Value.IsNil" 0) ReflectliteValue.isNil) Tryz.func223 (by kernel_rfl) (by kernel_rfl) (by kernel_rfl) (by kernel_rfl);have hK:=@run_callFunc_extern Tryz.prog 386 _ (ReflectliteType.abiMethod fun t=>do pure (.int .u8 (← Rtype.kind t))) Tryz.func386 (by kernel_rfl) (by kernel_rfl) (by kernel_rfl) (by kernel_rfl)
 have hE:=@run_callFunc_extern Tryz.prog 397 _ (ReflectliteType.method ReflectliteType.elem) Tryz.func397 (by kernel_rfl) (by kernel_rfl) (by kernel_rfl) (by kernel_rfl);have hI:=@run_callFunc_extern Tryz.prog 398 _ (ReflectliteType.relation "Implements" ReflectliteType.implements_) Tryz.func398 (by kernel_rfl) (by kernel_rfl) (by kernel_rfl) (by kernel_rfl);have hO:=@run_callFunc_extern Tryz.prog 268 _ ReflectliteType.typeOf Tryz.func268 (by kernel_rfl) (by kernel_rfl) (by kernel_rfl) (by kernel_rfl)
 have hA:=@run_callFunc_extern Tryz.prog 395 _ (ReflectliteType.relation "AssignableTo" ReflectliteType.assignableTo) Tryz.func395 (by kernel_rfl) (by kernel_rfl) (by kernel_rfl) (by kernel_rfl);have hEl:=@run_callFunc_extern Tryz.prog 269 _ (ReflectliteValue.method (ReflectliteValue.valueError "reflectlite.Value.Elem" 0) ReflectliteValue.elem) Tryz.func269 (by kernel_rfl) (by kernel_rfl) (by kernel_rfl) (by kernel_rfl);have hS:=@run_callFunc_extern Tryz.prog 270 _ ReflectliteValue.set Tryz.func270 (by kernel_rfl) (by kernel_rfl) (by kernel_rfl) (by kernel_rfl);have tO:=zuW
 have mA:=zuM;have aW:=zuP;have vW:=zuU;have f6:=zuT;have f7:=zu6;have mK:=zuQ;have mE:=zuR;have mI:=zuN;have kP:=zu7;have kW:=zu8;have eP:=zva;have iW:=zuO;have n8:=zu1 ⟨w.heap.size,0,none⟩ ⟨b,0,none⟩ ((w.alloc (.cells #[.pointer (some ⟨b,0,none⟩)] 192)).alloc (.cells #[.pointer (some ⟨3,192,none⟩),.pointer (some ⟨w.heap.size,0,none⟩),.int .u64 150] 237)) (by simp);have hlt:0 < w.heap.size:=znI hg
 have hg2:((w.alloc (.cells #[.pointer (some ⟨b,0,none⟩)] 192)).alloc (.cells #[.pointer (some ⟨3,192,none⟩),.pointer (some ⟨w.heap.size,0,none⟩),.int .u64 150] 237)).cell? ⟨0,0,none⟩=some (.iface 284 (.agg #[.pointer (some ⟨3,187,none⟩)])):=by
  rw [World.cell?_alloc_lt _ _ ⟨0,0,none⟩ (by first | (simp;done) | (simp;omega)),World.cell?_alloc_lt _ _ ⟨0,0,none⟩ hlt];exact hg
 have htl:b < w.heap.size:=by
  rcases Nat.lt_or_ge b w.heap.size with h | h
  ·exact h
  ·rw [Array.getElem?_eq_none h] at hb;cases hb
 have el:=zu2 ⟨w.heap.size,0,none⟩ ⟨b,0,none⟩ (((w.alloc (.cells #[.pointer (some ⟨b,0,none⟩)] 192)).alloc (.cells #[.pointer (some ⟨3,192,none⟩),.pointer (some ⟨w.heap.size,0,none⟩),.int .u64 150] 237)).alloc (.cells #[.pointer (some ⟨3,192,none⟩),.pointer (some ⟨w.heap.size,0,none⟩),.int .u64 150] 237)) (by rw [World.cell?_alloc_lt _ _ ⟨w.heap.size,0,none⟩ (by first | (simp;done) | (simp;omega))];simp)
 have st:=zvc b (w.heap.size+1+1+1) c u cur ((((w.alloc (.cells #[.pointer (some ⟨b,0,none⟩)] 192)).alloc (.cells #[.pointer (some ⟨3,192,none⟩),.pointer (some ⟨w.heap.size,0,none⟩),.int .u64 150] 237)).alloc (.cells #[.pointer (some ⟨3,192,none⟩),.pointer (some ⟨w.heap.size,0,none⟩),.int .u64 150] 237)).alloc (.cells #[c,u] 190))
  (by have:=heap_alloc_new (((w.alloc (.cells #[.pointer (some ⟨b,0,none⟩)] 192)).alloc (.cells #[.pointer (some ⟨3,192,none⟩),.pointer (some ⟨w.heap.size,0,none⟩),.int .u64 150] 237)).alloc (.cells #[.pointer (some ⟨3,192,none⟩),.pointer (some ⟨w.heap.size,0,none⟩),.int .u64 150] 237)) (.cells #[c,u] 190);simpa using this) hc
  (by rw [heap_alloc_old _ _ (by first | (simp;done) | (simp;omega)),heap_alloc_old _ _ (by first | (simp;done) | (simp;omega)),heap_alloc_old _ _ (by first | (simp;done) | (simp;omega)),heap_alloc_old _ _ htl];exact hb) h1 h2
 go_enter Tryz.func167,Tryz.ntmps167
 go_wp2
 refine wp_loop_rounds 1 ?_;rw [rounds_succ]
 go_wp2
 go_ret
 exact ⟨rfl,rfl⟩
open Go.Proofs
inductive Er
 | nil
 | w (c:Int) (u:Er)
def erV:Er->Value
 | .nil=>.nilIface
 | .w c u=>.iface 190 (.agg #[.int .i64 c,erV u])
theorem er_if(e:Er):ifB (erV e)=true:=by cases e <;> rfl
theorem zod(e:Er):(erV e).oneCell'=true:=by cases e <;> rfl
def zoe(e:Er):List SV:=[.op (erV e)]
theorem LE_er{c:Int}{u:Er}:LE (.ifc 190 (.agg [i64 c,.op (erV u)])) (.op (erV (.w c u))):=fun S Pm ρ w v hg=>by
 obtain ⟨x,rfl,hx⟩:=hg.ifc_inv;obtain ⟨vs,rfl,hvs⟩:=hx.agg_inv;obtain ⟨a,r,rfl,ha,hr⟩:=hvs.cons_inv;obtain ⟨b,r',rfl,hb,hr'⟩:=hr.cons_inv;rw [hr'.nil_inv,ha.val_inv,hb.op_inv.1];exact .d _ _ (.op _ rfl)
theorem zsr{c:Int}:LE (.ifc 190 (.agg [i64 c,.val .nilIface])) (.op (erV (.w c .nil))):=fun S Pm ρ w v hg=>by
 obtain ⟨x,rfl,hx⟩:=hg.ifc_inv;obtain ⟨vs,rfl,hvs⟩:=hx.agg_inv;obtain ⟨a,r,rfl,ha,hr⟩:=hvs.cons_inv;obtain ⟨b,r',rfl,hb,hr'⟩:=hr.cons_inv;rw [hr'.nil_inv,ha.val_inv,hb.val_inv];exact .d _ _ (.op _ rfl)
def z6(p:Prop)[Decidable p](c:Int):Er:=if p then .w c .nil else .nil
def uw:List Er->Er
 | []=>.nil
 | .nil::r=>uw r
 | .w c u::_=>.w 0 (.w c u)
theorem zeZ:∀{l:List Er},(∀e∈l,e=.nil)->uw l=.nil
 | [],_=>rfl
 | .nil::r,h=>zeZ (l:=r) fun e he=>h e (.tail _ he)
 | .w c u::_,h=>by cases h _ (.head _)
theorem ze0:∀{l:List Er} {i:Nat} {c:Int} {u:Er},(∀e∈l.take i,e=.nil)->l[i]? =some (.w c u)->uw l=.w 0 (.w c u)
 | [],i,c,u,_,hx=>by simp at hx
 | e::r,0,c,u,_,hx=>by simp at hx;subst hx;rfl
 | e::r,i+1,c,u,h,hx=>by
  have he:e=.nil:=h e (by rw [List.take_succ_cons];exact .head _);subst he;exact ze0 (l:=r) (i:=i) (fun e he=>h e (by rw [List.take_succ_cons];exact .tail _ he)) (by simpa using hx)
theorem qO(p:Prop)[Decidable p](c:Int):ze Tryz.prog 215 [pr p,i64 c] [] (.op (erV (z6 p c))) []:=by
 refine zd tok mix Tryz.func215 rfl rfl rfl ?_;refine Br.mk (fun h=>?_) (fun h=>?_)
 ·rw [z6,if_neg h];exact zls rfl
 ·rw [z6,if_pos (Decidable.not_not.1 h)];exact zsr
theorem zhA(l:List Er):ze Tryz.prog 214 [.sl zoe l] [] (.op (erV (uw l))) []:=by
 refine zd tok mix Tryz.func214 rfl rfl rfl ?_;intro hl;refine ⟨Nat,fun i=>⟨[(7,i64 (i:Int)),(6,i64 (l.length:Int)),(5,.sl zoe l)],[],0,17,0⟩,fun i=>i<=l.length/\∀e∈l.take i,e=.nil,fun i=>l.length - i,0,⟨Nat.zero_le _,fun t ht=>by cases ht⟩,?_,?_⟩
 ·exact zi []
 rintro i ⟨h1,h2⟩
 refine Br.mk (fun g=>?_) (fun g=>?_)
 ·have g:(i:Int) < l.length:=g;refine Ob.o ?_;intro x hx;have hx:l[i]? =some x:=hx;refine Br.mk (fun h=>?_) (fun h=>?_)
  ·cases x with
   | nil=>exact absurd rfl h
   | w c u=>rw [ze0 h2 hx];exact LE_er
  ·cases x with
   | w c u=>exact absurd (fun h=>by cases h) h
   | nil=>
    refine Ar.o ?_;refine ⟨i+1,⟨oM,fun e he=>?_⟩,zi [],by dsimp only;omega⟩;rw [List.take_add_one,hx] at he
    rcases List.mem_append.1 he with he | he
    ·exact h2 e he
    ·simpa using he
 have g:¬(i:Int) < l.length:=g;rw [List.take_of_length_le oM] at h2;rw [zeZ h2];exact zls rfl
theorem glE:GL 0 (.iface 284 (.agg #[.pointer (some ⟨3,187,none⟩)])):=.head _
theorem zdE:vd Tryz.prog 167:=⟨_,Tryz.func167,rfl,rfl⟩
theorem ziV(x y:SV):ze Tryz.prog 167 [.op (erV .nil),.ifc 192 (.loc 0 0)] [(0,.box 190 [x,y])] (bl false) [(0,.box 190 [x,y])]:=by
 refine ⟨zdE,fun Keep ρ w vs _ hm hρ hg=>?_⟩;obtain ⟨a,r,rfl,ha,hr⟩:=hg.cons_inv;obtain ⟨b,r',rfl,hb,hr'⟩:=hr.cons_inv;obtain rfl:=hr'.nil_inv;obtain rfl:=ha.op_inv.1;refine (zu0 b w).mono ?_
 rintro e w' ⟨rfl,rfl⟩
 exact ⟨_,ρ,rfl,.refl,hm,.d _ _ (.val _)⟩
theorem zz.more{Keep:Nat->Prop}{M:List (Nat×Mem)}{ρ:zh}{w:World}(hm:zz Keep M ρ w)(c:Array Value)(t:TypeId):Stp (Own M ρ) (Own M ρ) ρ ρ w (w.alloc (.cells c t))/\zz Keep M ρ (w.alloc (.cells c t)):=
 hm.same rfl rfl (.cells _ _ _) (by simp) (fun b hb=>heap_alloc_old w _ hb)
theorem ziW(c:Int)(u:Er)(x y:SV):ze Tryz.prog 167 [.op (erV (.w c u)),.ifc 192 (.loc 0 0)] [(0,.box 190 [x,y])] (bl true) [(0,.box 190 [i64 c,.op (erV u)])]:=by
 refine ⟨zdE,fun Keep ρ w vs _ hm hρ hg=>?_⟩;obtain ⟨a,r,rfl,ha,hr⟩:=hg.cons_inv;obtain ⟨b,r',rfl,hb,hr'⟩:=hr.cons_inv;obtain rfl:=hr'.nil_inv;obtain rfl:=ha.op_inv.1;obtain ⟨p,rfl,hp⟩:=hb.ifc_inv;obtain ⟨k,hk,rfl⟩:=hp.loc_inv;obtain ⟨k',cs,hρ0,hheap,hlen,hone,hcells⟩:=hm.rel 0 _ (.head _);rw [hk] at hρ0;cases hρ0
 refine (zu5 k (.int .i64 c) (erV u) cs.toArray w (hm.glc glE) (by simp [hlen]) hheap rfl (zod u)).mono ?_
 rintro e w' ⟨rfl,rfl⟩
 obtain ⟨s1,m1⟩:=hm.more #[.pointer (some ⟨k,0,none⟩)] 192;obtain ⟨s2,m2⟩:=m1.more #[.pointer (some ⟨3,192,none⟩),.pointer (some ⟨w.heap.size,0,none⟩),.int .u64 150] 237;obtain ⟨s3,m3⟩:=m2.more #[.pointer (some ⟨3,192,none⟩),.pointer (some ⟨w.heap.size,0,none⟩),.int .u64 150] 237;obtain ⟨s4,m4⟩:=m3.more #[.int .i64 c,erV u] 190;obtain ⟨k2,cs2,hρ2,hheap2,hlen2,_,_⟩:=m4.rel 0 _ (.head _);rw [hk] at hρ2;cases hρ2
 obtain ⟨s5,m5⟩:=m4.write (.box 190 [i64 c,.op (erV u)]) (.head _) hk rfl #[.int .i64 c,erV u] fun hs=>
  ⟨k,[.int .i64 c,erV u],hk,by simpa using setRow_heap _ k _ _ 190 _ hheap2,rfl,fun v hv=>by
   simp only [List.mem_cons,List.not_mem_nil,or_false] at hv
   rcases hv with rfl | rfl
   ·rfl
   ·exact zod u,fun j s v hs hv=>by
   match j with
   | 0=>cases hs;cases hv;exact .d _ _ (.val _)
   | 1=>cases hs;cases hv;exact .d _ _ (.op _ (er_if u))
   | j+2=>simp at hs⟩
 exact ⟨_,ρ,rfl,(((s1.trans s2).trans s3).trans s4).trans s5,m5,.d _ _ (.val _)⟩
end Go.Gs
namespace Go.Gs
open Go.ChangeShapes Go.WideShapes Go.Deep Go.Joins Go.RowKit
section
variable {H:Type} {enc:TypeId×Value->H} {P:Program} {w:World} {base:Nat} {held:Bool}
end
theorem args_stay{H:Type}{enc:TypeId×Value->H}{P:Program}(hl:laidOutB P=true){W W':World}(hb:Below W.heap.size W W'){sp:Nat->Bool}:
  ∀{ts:List TypeId} {vs:List Value} {ds:List (DataW H)} {ps:List MemPlace},(ts.all fun t=>P.readableRec t&&decide (t < P.types.size))=true->
   DataW.TrodAll enc P W 0 (fun _=>true) true ts vs ds ps->(∀p∈ps,p.block < W.heap.size)->(∀p∈ps,sp p.block=true)->DataW.TrodAll enc P W' 0 sp true ts vs ds ps
 | [],[],[],_,_,h,_,_=>h
 | t::ts,v::vs,d::ds,ps,hts,⟨p,q,h1,h2,e⟩,hlt,hsp=>by
  simp only [List.all_cons,Bool.and_eq_true,decide_eq_true_eq] at hts;have e1:∀x∈p,x∈ps:=fun x hx=>by rw [e];exact List.mem_append_left _ hx
  have e2:∀x∈q,x∈ps:=fun x hx=>by rw [e];exact List.mem_append_right _ hx
  refine ⟨p,q,WideElems.Trod_stays hl hts.1.1 hts.1.2 h1 (fun x hx=>hb.same (hlt x (e1 x hx))) (fun x hx=>hsp x (e1 x hx)),args_stay hl hb (by simpa using hts.2) h2 (fun x hx=>hlt x (e2 x hx)) (fun x hx=>hsp x (e2 x hx)),e⟩
end Go.Gs
namespace Go.Gs
open Go.ChangeShapes Go.WideShapes Go.Deep Go.Joins Go.RowKit
inductive Sh
 | int (k:IntKind)
 | bool
 | sl (e:Sh)
 | st (fs:Sh)
 | ar (es:Sh)
 | nil
 | cons (f r:Sh)
def Sh.T:Sh->Type
 | .int _=>Int
 | .bool=>Bool
 | .sl e=>List e.T
 | .st fs=>fs.T
 | .ar es=>es.T
 | .nil=>Unit
 | .cons f r=>f.T×r.T
def Sh.dflt:(s:Sh)->s.T
 | .int _=>(0:Int)
 | .bool=>false
 | .sl _=>[]
 | .st fs=>fs.dflt
 | .ar es=>es.dflt
 | .nil=>()
 | .cons f r=>(f.dflt,r.dflt)
def Sh.n:Sh->Nat
 | .int _=>1
 | .bool=>1
 | .sl _=>1
 | .st fs=>fs.n
 | .ar es=>es.n
 | .nil=>0
 | .cons f r=>f.n+r.n
def Sh.enc:(s:Sh)->s.T->List SV
 | .int k,n=>[.val (.int k n)]
 | .bool,b=>[.pr (@Eq Bool b true) (instDecidableEqBool b true)]
 | .sl e,xs=>[.sl e.enc xs]
 | .st fs,x=>fs.enc x
 | .ar es,x=>es.enc x
 | .nil,_=>[]
 | .cons f r,x=>f.enc x.1++r.enc x.2
def Sh.wf:(s:Sh)->s.T->Prop
 | .int k,n=>(Lit.int k n).wf=true
 | .bool,_=>True
 | .sl e,xs=>∀x:e.T,@Membership.mem e.T (List e.T) _ xs x->e.wf x
 | .st fs,x=>fs.wf x
 | .ar es,x=>es.wf x
 | .nil,_=>True
 | .cons f r,x=>f.wf x.1/\r.wf x.2
def Sh.fit(P:Program):Sh->(TypeId->Bool)×(List Field->Nat->Bool)×(Nat->TypeId->Bool)
 |.int k=>(fun t=>match P.underlying t with
  | some (.int k')=>zj4 k k'&&Nat.beq (P.cellsOf t) 1
  | _=>false,fun _ _=>false,fun _ _=>false)
 |.bool=>(fun t=>match P.underlying t with
  | some .bool=>Nat.beq (P.cellsOf t) 1
  | _=>false,fun _ _=>false,fun _ _=>false)
 |.sl e=>(fun t=>match P.underlying t with
  | some (.slice u)=>(e.fit P).1 u&&Nat.beq (P.cellsOf t) 1&&Nat.blt 0 e.n
  | _=>false,fun _ _=>false,fun _ _=>false)
 |.st fs=>(fun t=>match P.underlying t with
  | some (.struct gs)=>(fs.fit P).2.1 gs.toList 0&&Nat.beq (P.cellsOf t) fs.n
  | _=>false,fun _ _=>false,fun _ _=>false)
 |.ar es=>(fun t=>match P.underlying t with
  | some (.array n u)=>(es.fit P).2.2 n u&&Nat.beq (P.cellsOf t) es.n
  | _=>false,fun _ _=>false,fun _ _=>false)
 |.nil=>(fun _=>false,fun gs _=>match gs with
  | []=>true
  | _=>false,fun n _=>match n with
  | 0=>true
  | _=>false)
 |.cons f r=>(fun _=>false,fun gs off=>match gs with
  | []=>false
  | g::gs=>Nat.beq g.offset off&&(f.fit P).1 g.type&&(r.fit P).2.1 gs (off+f.n),fun n u=>match n with
  | 0=>false
  | n+1=>(f.fit P).1 u&&(r.fit P).2.2 n u)
theorem Sh.enc_len:∀(s:Sh) (x:s.T),(s.enc x).length=s.n
 | .int _,_=>rfl
 | .bool,_=>rfl
 | .sl _,_=>rfl
 | .st fs,x=>Sh.enc_len fs x
 | .ar es,x=>Sh.enc_len es x
 | .nil,_=>rfl
 | .cons f r,x=>by
  show (f.enc x.1++r.enc x.2).length=f.n+r.n;rw [List.length_append,Sh.enc_len f,Sh.enc_len r]
def Dc(S:Nat->Prop)(w:World)(cs:List SV)(vs:List Value):Prop:=
 vs.length=cs.length/\∀(j:Nat) (s:SV) (v:Value),cs[j]? =some s->vs[j]? =some v->D S w s v/\v.oneCell'=true
theorem Dc.nil{S:Nat->Prop}{w:World}:Dc S w [] []:=⟨rfl,fun j s v h=>by simp at h⟩
theorem Dc.append{S:Nat->Prop}{w:World}{cs ds:List SV}{vs us:List Value}(h:Dc S w cs vs)(k:Dc S w ds us):Dc S w (cs++ds) (vs++us):=by
 refine ⟨by rw [List.length_append,List.length_append,h.1,k.1],fun j s v hs hv=>?_⟩
 by_cases hj:j < cs.length
 ·rw [List.getElem?_append_left hj] at hs;rw [List.getElem?_append_left (by rw [h.1];exact hj)] at hv;exact h.2 j s v hs hv
 ·rw [List.getElem?_append_right oM] at hs;rw [List.getElem?_append_right (by rw [h.1];omega),h.1] at hv;exact k.2 _ s v hs hv
theorem Dc.one{S:Nat->Prop}{w:World}{s:SV}{v:Value}(h:D S w s v)(ho:v.oneCell'=true):Dc S w [s] [v]:=⟨rfl,fun j s' v' hs hv=>by
 match j with
 | 0=>simp at hs hv;subst hs;subst hv;exact ⟨h,ho⟩
 | j+1=>simp at hs⟩
section
variable {H:Type} {enc:TypeId×Value->H} {P:Program} {W:World} {held:Bool}
theorem zfy(L:List Value)(off a b:Nat):(L.drop off).take (a+b)=(L.drop off).take a++(L.drop (off+a)).take b:=by
 rw [List.take_add,List.drop_drop]
theorem zra:∀s:Sh,
  ((∀(t:TypeId) (fuel:Nat) (L:List Value) (x:DataW H×List MemPlace),(s.fit P).1 t=true->DataW.trod enc P W 0 (fun _=>true) held fuel t L=some x->
   P.cellsOf t=s.n/\L.length=s.n/\∃y:s.T,s.wf y/\∀S:Nat->Prop,(∀b,¬S b)->Dc S W (s.enc y) L))/\
  (∀(gs:List Field) (off m:Nat) (L:List Value),(s.fit P).2.1 gs off=true->(∀g∈gs,∃x,DataW.trod enc P W 0 (fun _=>true) held m g.type ((L.drop g.offset).take (P.cellsOf g.type))=some x)->
   ∃y:s.T,s.wf y/\∀S:Nat->Prop,(∀b,¬S b)->Dc S W (s.enc y) ((L.drop off).take s.n))/\
  (∀(n i m:Nat) (u:TypeId) (L:List Value),(s.fit P).2.2 n u=true->(∀j,j < n->∃x,DataW.trod enc P W 0 (fun _=>true) held m u ((L.drop ((i+j)*P.cellsOf u)).take (P.cellsOf u))=some x)->
   ∃y:s.T,s.wf y/\∀S:Nat->Prop,(∀b,¬S b)->Dc S W (s.enc y) ((L.drop (i*P.cellsOf u)).take s.n)):=by
 intro s
 induction s with
 | int k=>
  refine ⟨fun t fuel L x hf h=>?_,fun _ _ _ _ hf _=>(by cases hf),fun _ _ _ _ _ hf _=>(by cases hf)⟩;unfold Sh.fit at hf;dsimp only at hf
  split at hf
  ·rename_i k' hk;simp only [Bool.and_eq_true] at hf;obtain ⟨hk',hc⟩:=hf;have hk':=zcb hk';subst hk';obtain ⟨q,rfl,_,hw⟩:=DataW.trod_int hk h;exact ⟨Nat.eq_of_beq_eq_true hc,rfl,q,hw,fun S _=>.one (.val _) rfl⟩
  ·cases hf
 | bool=>
  refine ⟨fun t fuel L x hf h=>?_,fun _ _ _ _ hf _=>(by cases hf),fun _ _ _ _ _ hf _=>(by cases hf)⟩;unfold Sh.fit at hf;dsimp only at hf
  split at hf
  ·rename_i hk;obtain ⟨b,rfl,_⟩:=DataW.trod_bool hk h;refine ⟨Nat.eq_of_beq_eq_true hf,rfl,b,trivial,fun S _=>.one ?_ rfl⟩;have:=D.pr (S:=S) (w:=W) (b=true) inferInstance
   rwa [show decide (b=true)=b by cases b <;> rfl] at this
  ·cases hf
 | sl e ih=>
  refine ⟨fun t fuel L x hf h=>?_,fun _ _ _ _ hf _=>(by cases hf),fun _ _ _ _ _ hf _=>(by cases hf)⟩;unfold Sh.fit at hf;dsimp only at hf
  split at hf
  ·rename_i u hk;simp only [Bool.and_eq_true] at hf;obtain ⟨⟨he,hc⟩,hpos⟩:=hf;have hpos:0 < e.n:=by simpa using hpos
   refine ⟨Nat.eq_of_beq_eq_true hc,?_⟩
   rcases open_slice hk h with ⟨rfl,_⟩ | ⟨a,len,cap,m,n,Df,Pl,rfl,_,hl,hm,hmm,_,hi⟩
   ·exact ⟨rfl,([]:List e.T),fun x hx=>(by cases hx),fun S _=>.one (.nil _ _) rfl⟩
   have hmc:m=cap:=by simpa using hmm
   subst hmc;refine ⟨rfl,?_⟩
   have key:∀i,i < m->∃cs',P.cellsOf u=e.n/\W.cells? 0 (a.add (i*e.n)) e.n=some cs'/\∃y:e.T,e.wf y/\∀S:Nat->Prop,(∀b,¬S b)->Dc S W (e.enc y) cs':=fun i hi'=>by
    obtain ⟨cs',h1,h2⟩:=hi i hi';obtain ⟨g1,g2,g3⟩:=ih.1 u n cs' _ he h2;rw [g1] at h1;exact ⟨cs',g1,h1,g3⟩
   by_cases h0:m=0
   ·subst h0;have:len=0:=oM;subst this;exact ⟨([]:List e.T),fun x hx=>(by cases hx),fun S _=>.one (.nil _ _) rfl⟩
   have hspot:a.spot=none/\a.block < W.heap.size:=by
    obtain ⟨cs',_,h1,_⟩:=key 0 oM;obtain ⟨_,_,hat⟩:=World.cells?_some h1;have h2:=hat 0 hpos;have hlen:cs'.length=e.n:=by obtain ⟨_,hl,_⟩:=World.cells?_some h1;exact hl
    rw [List.getElem?_eq_getElem oM,Nat.zero_mul] at h2;have:(a.add 0).add 0=a:=by unfold Addr.add;simp
    rw [this] at h2;unfold World.cell? at h2
    split at h2
    ·rename_i hb
     split at h2
     ·cases h2
     ·rename_i hs;refine ⟨by simpa using hs,(Array.getElem?_eq_some_iff.1 hb).1⟩
    ·cases h2
   obtain ⟨b,o,sp⟩:=a;obtain ⟨hs,hb⟩:=hspot;have hs:sp=none:=hs;subst hs
   haveI:Inhabited e.T:=⟨e.dflt⟩
   obtain ⟨F,hF⟩:=choose_lt (α:=e.T) (n:=m) (p:=fun i y=>∃cs',W.cells? 0 (Addr.add ⟨b,o,none⟩ (i*e.n)) e.n=some cs'/\e.wf y/\∀S:Nat->Prop,(∀b,¬S b)->Dc S W (e.enc y) cs') (fun i hi'=>by
    obtain ⟨cs',_,h1,y,hy,hd⟩:=key i hi'
    exact ⟨y,cs',h1,hy,hd⟩)
   refine ⟨(List.range len).map F,fun x hx=>?_,fun S hS=>.one ?_ rfl⟩
   ·obtain ⟨i,hi',rfl⟩:=List.mem_map.1 hx;obtain ⟨_,_,hw,_⟩:=hF i (by have:=List.mem_range.1 hi';omega);exact hw
   ·have at1:∀i j,i < m->j < e.n->∃v,W.cell? ⟨b,o+i*e.n+j,none⟩=some v/\v.oneCell'=true/\∀s,(e.enc (F i))[j]? =some s->D S W s v:=fun i j hi' hj=>by
     obtain ⟨cs',h1,_,hd⟩:=hF i hi';obtain ⟨_,hlen,hat⟩:=World.cells?_some h1;have h2:=hat j hj;rw [List.getElem?_eq_getElem oM,add_add] at h2;have e1:Addr.add ⟨b,o,none⟩ (i*e.n+j)=⟨b,o+i*e.n+j,none⟩:=by rw [qU,← Nat.add_assoc]
     rw [e1] at h2;have hd:=hd S hS;have hjl:j < (e.enc (F i)).length:=by rw [Sh.enc_len];exact hj
     have:=hd.2 j _ _ (List.getElem?_eq_getElem hjl) (List.getElem?_eq_getElem (show j < cs'.length by omega));refine ⟨_,h2,this.2,fun s hs=>?_⟩;exact (hd.2 j s _ hs (List.getElem?_eq_getElem (show j < cs'.length by omega))).1
    have hsl:=D.sl (S:=S) (w:=W) e.enc ((List.range len).map F) e.n b o m (fun i j=>(W.cell? ⟨b,o+i*e.n+j,none⟩).getD undef) hb (hS b) (by simp;unfold maxLen at hm;omega) (by simpa using hl) (fun x _=>Sh.enc_len e x) (fun i j hi' hj=>by
     obtain ⟨v,h1,h2,_⟩:=at1 i j (by simp at hi';omega) hj
     rw [h1];exact ⟨rfl,h2⟩) (fun i j x s hx hs=>by
     have hi':i < len:=by have:=(List.getElem?_eq_some_iff.1 hx).1;simpa using this
     simp only [List.getElem?_map,List.getElem?_range hi',Option.map_some,Option.some.injEq] at hx;subst hx;have hj:j < e.n:=by have:=(List.getElem?_eq_some_iff.1 hs).1;rw [Sh.enc_len] at this;exact this
     obtain ⟨v,h1,_,h3⟩:=at1 i j oM hj
     rw [h1];exact h3 s hs)
    simpa using hsl
  ·cases hf
 | st fs ih=>
  refine ⟨fun t fuel L x hf h=>?_,fun _ _ _ _ hf _=>(by cases hf),fun _ _ _ _ _ hf _=>(by cases hf)⟩;unfold Sh.fit at hf;dsimp only at hf
  split at hf
  ·rename_i gs hk;simp only [Bool.and_eq_true] at hf;obtain ⟨hg,hc⟩:=hf;have hc:=Nat.eq_of_beq_eq_true hc;obtain ⟨xs,m,_,_,hl,hxl,hfl⟩:=DataW.trod_struct hk h
   obtain ⟨y,hy,hd⟩:=ih.2.1 gs.toList 0 m L hg (fun g hg'=>by
    obtain ⟨i,hi,rfl⟩:=List.getElem_of_mem hg';have hi':i < gs.size:=by simpa using hi
    have:=hfl i gs[i] (by simp [hi'])
    exact ⟨xs[i]'oM,by simpa [List.getElem?_eq_getElem (show i < xs.length by omega)] using this⟩)
   refine ⟨hc,hl.trans hc,y,hy,fun S hS=>?_⟩;have:=hd S hS;rw [List.drop_zero,List.take_of_length_le (by show L.length<=fs.n;omega)] at this;exact this
  ·cases hf
 | ar es ih=>
  refine ⟨fun t fuel L x hf h=>?_,fun _ _ _ _ hf _=>(by cases hf),fun _ _ _ _ _ hf _=>(by cases hf)⟩;unfold Sh.fit at hf;dsimp only at hf
  split at hf
  ·rename_i n u hk;simp only [Bool.and_eq_true] at hf;obtain ⟨hg,hc⟩:=hf;have hc:=Nat.eq_of_beq_eq_true hc;obtain ⟨xs,m,_,_,hl,hxl,hfl⟩:=DataW.trod_array hk h
   obtain ⟨y,hy,hd⟩:=ih.2.2 n 0 m u L hg (fun j hj=>by
    have:=hfl j hj
    exact ⟨xs[j]'oM,by rw [Nat.zero_add,this,List.getElem?_eq_getElem (show j < xs.length by omega)]⟩)
   refine ⟨hc,hl.trans hc,y,hy,fun S hS=>?_⟩;have:=hd S hS;rw [Nat.zero_mul,List.drop_zero,List.take_of_length_le (by show L.length<=es.n;omega)] at this;exact this
  ·cases hf
 | nil=>
  refine ⟨fun t fuel L x hf h=>(by cases hf),fun gs off m L hf _=>⟨(),trivial,fun S _=>?_⟩,fun n i m u L hf _=>⟨(),trivial,fun S _=>?_⟩⟩
  ·show Dc S W [] ((L.drop off).take 0);rw [List.take_zero];exact .nil
  ·show Dc S W [] ((L.drop _).take 0);rw [List.take_zero];exact .nil
 | cons f r ihf ihr=>
  refine ⟨fun t fuel L x hf h=>(by cases hf),fun gs off m L hf hx=>?_,fun n i m u L hf hx=>?_⟩
  ·unfold Sh.fit at hf;dsimp only at hf
   split at hf
   ·cases hf
   ·rename_i g gs;simp only [Bool.and_eq_true] at hf;obtain ⟨⟨ho,h1⟩,h2⟩:=hf;have ho:=Nat.eq_of_beq_eq_true ho;subst ho;obtain ⟨x,hx0⟩:=hx g (List.mem_cons_self ..);obtain ⟨g1,g2,y,hy,hd⟩:=ihf.1 g.type m _ x h1 hx0;obtain ⟨z,hz,he⟩:=ihr.2.1 gs (g.offset+f.n) m L h2 (fun g' hg'=>hx g' (List.mem_cons_of_mem _ hg'));refine ⟨(y,z),⟨hy,hz⟩,fun S hS=>?_⟩;show Dc S W (f.enc y++r.enc z) ((L.drop g.offset).take (f.n+r.n));rw [zfy];have:=hd S hS;rw [g1] at this;exact this.append (he S hS)
  ·unfold Sh.fit at hf;dsimp only at hf
   split at hf
   ·cases hf
   ·rename_i n;simp only [Bool.and_eq_true] at hf;obtain ⟨h1,h2⟩:=hf;obtain ⟨x,hx0⟩:=hx 0 oM;obtain ⟨g1,g2,y,hy,hd⟩:=ihf.1 u m _ x h1 hx0
    obtain ⟨z,hz,he⟩:=ihr.2.2 n (i+1) m u L h2 (fun j hj=>by
     have:=hx (j+1) oM
     rwa [show i+(j+1)=i+1+j by omega] at this)
    refine ⟨(y,z),⟨hy,hz⟩,fun S hS=>?_⟩;show Dc S W (f.enc y++r.enc z) ((L.drop (i*P.cellsOf u)).take (f.n+r.n));rw [zfy];have:=hd S hS;rw [Nat.add_zero,g1] at this;have he:=he S hS;rw [g1,Nat.add_mul,Nat.one_mul] at he;rw [g1];exact this.append he
end
def LEd(s r:SV):Prop:=∀(S:Nat->Prop) (w:World) (v:Value),D S w s v->D S w r v
inductive kS:List SV->List SV->Prop
 | nil:kS [] []
 | cons {a b:SV} {us bs:List SV} (h:LEd a b) (t:kS us bs):kS (a::us) (b::bs)
theorem LEd.refl{s:SV}:LEd s s:=fun _ _ _ h=>h
theorem kS.refl:∀{us:List SV},kS us us
 | []=>.nil
 | _::_=>.cons .refl .refl
theorem kS.append{us bs cs ds:List SV}(h:kS us bs)(k:kS cs ds):kS (us++cs) (bs++ds):=by
 induction h with
 | nil=>exact k
 | cons h _ ih=>exact .cons h ih
theorem kS.ix{us bs:List SV}(h:kS us bs):us.length=bs.length/\∀(j:Nat) (s r:SV),us[j]? =some s->bs[j]? =some r->LEd s r:=by
 induction h with
 | nil=>exact ⟨rfl,fun j s r h=>by simp at h⟩
 | cons h t ih=>
  refine ⟨by simp [ih.1],fun j s r hs hr=>?_⟩
  cases j with
  | zero=>simp at hs hr;subst hs;subst hr;exact h
  | succ j=>exact ih.2 j s r (by simpa using hs) (by simpa using hr)
theorem LEd.sl{α β:Type}{e:α->List SV}{g:β->List SV}(f:α->β){xs:List α}(he:∀x∈xs,kS (e x) (g (f x))):LEd (.sl e xs) (.sl g (xs.map f)):=fun S w v h=>by
 cases h with
 | nil _ a=>exact .nil g a
 | sl _ _ sz b o cap c hb hS hlen hcap hsz hc h=>
  have:=D.sl (S:=S) (w:=w) g (xs.map f) sz b o cap c hb hS (by simpa using hlen) (by simpa using hcap) (fun y hy=>by
   obtain ⟨x,hx,rfl⟩:=List.mem_map.1 hy
   rw [← (he x hx).ix.1];exact hsz x hx) (fun i j hi hj=>hc i j (by simpa using hi) hj) (fun i j y s hy hs=>by
   rw [List.getElem?_map] at hy
   cases hx:xs[i]? with
   | none=>simp [hx] at hy
   | some x=>
    simp [hx] at hy;subst hy;have he:=he x (List.mem_of_getElem? hx);have hj:j < (e x).length:=by rw [he.ix.1];exact (List.getElem?_eq_some_iff.1 hs).1
    have hs0:=List.getElem?_eq_getElem hj
    exact he.ix.2 j _ s hs0 hs _ _ _ (h i j x _ hx hs0))
  simpa using this
theorem zs2{α β:Type}{e:α->List SV}{g:β->List SV}(f:α->β){xs:List α}(he:∀x∈xs,kS (e x) (g (f x))):LE (.sl e xs) (.sl g (xs.map f)):=fun _ _ _ _ _ hg=>.d _ _ (LEd.sl f he _ _ _ hg.sl_inv)
theorem kS.gs{us bs:List SV}(h:kS us bs){S Pm:Nat->Prop}{ρ:zh}{w:World}{vs:List Value}(hd:vs.length=us.length/\∀(j:Nat) (s:SV) (v:Value),us[j]? =some s->vs[j]? =some v->D S w s v):Gs S Pm ρ w bs vs:=
 ⟨hd.1.trans h.ix.1,fun j r v hr hv=>by
  have hj:j < us.length:=by rw [h.ix.1];exact (List.getElem?_eq_some_iff.1 hr).1
  have hs:=List.getElem?_eq_getElem hj
  exact .d _ _ (h.ix.2 j _ r hs hr _ _ _ (hd.2 j _ v hs hv))⟩
section
variable {H:Type} {enc:TypeId×Value->H} {P:Program} {W:World} {held:Bool}
theorem zng {b0:Nat} {t:TypeId} {v:Value} {d:DataW H} {p:List MemPlace} (s:Sh) (hf:(s.fit P).1 t=true) (ha:(match P.underlying t with | some (.struct _)=>true | some (.array _ _)=>true | _=>false)=true)
  (hv:Value.okWide P W .any b0 t v) (h:DataW.Trod enc P W 0 (fun _=>true) held t v d p):
  ∃y:s.T,s.wf y/\∀(g:List SV),kS (s.enc y) g->∀(S Pm:Nat->Prop) (ρ:zh),(∀b,¬S b)->G S Pm ρ W (.agg g) v:=by
 obtain ⟨fuel,hx⟩:=h;obtain ⟨_,_,y,hy,hd⟩:=(zra s).1 t fuel _ _ hf hx
 have:∃cs,v=.agg cs:=by
  unfold Value.okWide at hv
  split at ha
  ·rename_i h1;rw [h1] at hv;obtain ⟨cs,rfl,_⟩:=hv;exact ⟨cs,rfl⟩
  ·rename_i h1;rw [h1] at hv;obtain ⟨cs,rfl,_⟩:=hv;exact ⟨cs,rfl⟩
  ·cases ha
 obtain ⟨cs,rfl⟩:=this;refine ⟨y,hy,fun g hg S Pm ρ hS=>?_⟩;have hd1:=hd S hS;have g1:=hg.gs (Pm:=Pm) (ρ:=ρ) ⟨hd1.1,fun j s v hs hv=>(hd1.2 j s v hs hv).1⟩;have:=G.agg (S:=S) (Pm:=Pm) (ρ:=ρ) (w:=W) _ _ g1.1 g1.2
 rwa [show (Value.agg cs).cells.toList.toArray=cs from Array.toArray_toList] at this
end
open Go.Proofs
theorem zl1:∀{l:List Pl},(∀x∈l,0 < x.pts.length)->l.length<=uK l
 | [],_=>Nat.zero_le _
 | x::r,h=>by
  have h1:=h x (.head _);have h2:=zl1 (l:=r) fun y hy=>h y (.tail _ hy)
  have e:uK (x::r)=x.pts.length+uK r:=by unfold uK;simp
  rw [e,List.length_cons];omega
def zdN:List Pl->Pen->List Pl×Int
 | [],_=>([],0)
 | p::r,pen=>if (zpa p pen).2≠0 then ([],(zpa p pen).2)
  else if (zdN r pen).2≠0 then ([],(zdN r pen).2) else ((zpa p pen).1++(zdN r pen).1,0)
theorem zjH:∀{l:List Pl} {q:Pl},q∈l->q.pts.length<=uK l
 | x::r,q,h=>by
  have e:uK (x::r)=x.pts.length+uK r:=by unfold uK;simp
  rw [e]
  cases h with
  | head=>omega
  | tail _ h=>have:=zjH h;omega
theorem zni{l:List Sg}{tol:Int}(h:¬(kZ l tol).2=0):(kZ l tol).1=[]:=by
 unfold kZ at h ⊢
 split at h <;> rename_i k1
 ·rw [if_pos k1]
 rw [if_neg k1]
 split at h <;> rename_i k2
 ·rw [if_pos k2]
 rw [if_neg k2]
 split at h <;> rename_i k3
 ·rw [if_pos k3]
 rw [if_neg k3]
 split at h <;> rename_i k4
 ·rw [if_pos k4]
 ·exact absurd rfl h
theorem zjJ(l:List Sg)(tol:Int):(kZ l tol).1.length<=4096/\∀q∈(kZ l tol).1,q.pts.length<=4096:=by
 by_cases h:(kZ l tol).2=0
 ·have hv:kY l:=by
   refine Decidable.not_not.1 fun k=>?_
   unfold kZ at h;rw [if_pos k] at h;exact absurd h dC
  obtain ⟨_,_,f3,f4⟩:=zju (lo:=⟨-1048576,-1048576⟩) (hi:=⟨1048576,1048576⟩) h (fun p hp=>zpc hv p hp);have hg:=zl1 (l:=(kZ l tol).1) fun x hx=>Nat.pos_of_ne_zero fun e=>(f4 x hx).1 (List.eq_nil_of_length_eq_zero e)
  exact ⟨oM,fun q hq=>by have:=zjH hq;omega⟩
 ·rw [zni h];exact ⟨Nat.zero_le _,fun q hq=>by cases hq⟩
theorem zrc(l:List Sg)(t:AF)(tol:Int)(ht:t.le 100000)(hl:l.length<=300):ze Tryz.prog 76 [.sl sgE l,.agg (afE t),i64 tol] [] (rgE (zbK l t tol)) []:=by
 refine znh 2 1 tok mix Tryz.func76 rfl rfl rfl Tryz.func123 rfl rfl ?_;refine ⟨_,_,rfl,?_⟩;refine ⟨_,_,_,_,_,rfl,rfl,rfl,rfl,?_⟩;refine ⟨_,rfl,rfl,rfl,?_⟩;refine zb.t (zqY l t ht hl) ?_;have fs:=zjJ (trans t l).1 tol;refine Br.mk (fun e1=>?_) (fun e1=>?_)
 ·have e1:¬(trans t l).2=0:=e1;refine ⟨_,.refl,rfl,?_⟩;refine Br.mk (fun _=>?_) (fun h=>absurd e1 h);exact zpD (by unfold zbK;rw [if_pos e1])
 have e1:(trans t l).2=0:=Decidable.not_not.1 e1;refine zb.t (zs1 (trans t l).1 tol) ?_;refine Dr.d ?_;refine zb.t (zpe (kZ (trans t l).1 tol).1 fs.1 fs.2) ?_;refine Ob.mk (by kernel_rfl) ?_;refine ⟨_,.refl,rfl,?_⟩;refine Br.mk (fun e2=>?_) (fun e2=>?_)
 ·have e2:¬(kZ (trans t l).1 tol).2=0:=e2;exact zpD (by unfold zbK;rw [zcJ e1,if_pos e2])
 ·have e2:(kZ (trans t l).1 tol).2=0:=Decidable.not_not.1 e2;have e:zbK l t tol=(vV (kZ (trans t l).1 tol).1,0):=by unfold zbK;rw [zcJ e1,zcJ e2]
  rw [e];exact zS .refl (zm e2)
theorem zuv(l:List Sg)(t:AF)(tol:Int)(ht:t.le 100000):ze Tryz.prog 39 [.sl sgE l,.agg (afE t),i64 tol] [] (rgE (zbK l t tol)) []:=by
 refine zd tok mix Tryz.func39 rfl rfl rfl ?_;refine zb.t (zun l t ht) ?_;have fs:=zjJ (trans t l).1 tol;refine Br.mk (fun e1=>?_) (fun e1=>?_)
 ·have e1:¬(trans t l).2=0:=e1;exact zpD (by unfold zbK;rw [if_pos e1])
 have e1:(trans t l).2=0:=Decidable.not_not.1 e1;refine zb.t (zuG (trans t l).1 tol) ?_;refine Br.mk (fun e2=>?_) (fun e2=>?_)
 ·have e2:¬(kZ (trans t l).1 tol).2=0:=e2;exact zpD (by unfold zbK;rw [zcJ e1,if_pos e2])
 have e2:(kZ (trans t l).1 tol).2=0:=Decidable.not_not.1 e2;refine zb.t (zuj (kZ (trans t l).1 tol).1 fs.1 fs.2) ?_;have e:zbK l t tol=(vV (kZ (trans t l).1 tol).1,0):=by unfold zbK;rw [zcJ e1,zcJ e2]
 rw [e];exact .refl
def errL(t:AF):List Pt->Int
 | []=>0
 | p::r=>if (qB t p).2≠0 then (qB t p).2 else errL t r
def movL(t:AF)(l:List Pt):List Pt:=l.map fun p=>(qB t p).1
def errR(t:AF):List (List Pt)->Int
 | []=>0
 | r::s=>if errL t r≠0 then errL t r else errR t s
def tranR(rs:List (List Pt))(t:AF):List (List Pt)×Int:=
 if ¬zcI rs then ([],12) else if errR t rs≠0 then ([],errR t rs) else (rs.map (movL t),0)
theorem zdo{α:Type}{P:α->Prop}{l:List α}{i:Nat}{x:α}(h:l[i]? =some x)(ha:∀p∈l.take i,P p)(hx:P x):∀p∈l.take (i+1),P p:=by
 intro p hp;rw [List.take_add_one,h] at hp
 rcases List.mem_append.1 hp with hp | hp
 ·exact ha p hp
 ·simp at hp;rw [hp];exact hx
end Go.Gs
