/- errors.As at the error of a node ('wrong'), by the kit's walk: nil; the error's own type is the target's. -/
import Derived.Test.YtplllpkdmehklaaGreatDoorMA
import Derived.Test.YtplllpkdmehklaaGreatDoorMAQ
import Derived.WalkKit
import Derived.LaidEql
import Derived.Stop.Asserts
import Derived.RowKitTokens
import Derived.Test.YtplllpkdmehklaaGreatDoorMAR
import Derived.Deep.Slices
import Derived.Deep.Fields
import Derived.ChangeSame
import Derived.Lib.SmallJoins
import Derived.ProofKit
import Derived.OpenShut
import Derived.Carry
set_option maxRecDepth 100000
set_option maxHeartbeats 8000000
set_option linter.all false
namespace Go.Gs
open Go.Proofs Go.RowKit Go.Extern.Stop Go.Stop Go.Extern
theorem zte(t:Value)(w:World):Calls Tryz.prog 165 #[.nilIface,t] w fun e w'=>e=.returned (.bool false)/\w'=w:=by
 go_enter Tryz.func165,Tryz.ntmps165
 go_wp2
 go_ret
 exact ⟨rfl,rfl⟩
theorem znS(t:Addr)(w:World):(ReflectliteValue.unpack (.iface 199 (.pointer (some t)))).run Tryz.prog w
  =.ok (.agg #[.pointer (some ⟨3,199,none⟩),.pointer (some ⟨w.heap.size,0,none⟩),.int .u64 150]) (w.alloc (.cells #[.pointer (some t)] 199)):=by kernel_rfl
theorem zvn(a:Addr)(w:World):(ReflectliteValue.methodAny (ReflectliteValue.valueError "reflectlite.Value.Type" 0) (fun t _ _ _=>ReflectliteType.toType t) #[.agg #[.pointer (some ⟨3,199,none⟩),.pointer (some a),.int .u64 150]]).run Tryz.prog w
  =.ok (.iface 291 (.agg #[.pointer (some ⟨3,199,none⟩)])) w:=by kernel_rfl
theorem zki(h:Value)(w:World):(Go.method 488 291 (.agg #[h]) "Kind").run Tryz.prog w=.ok (366,h) w:=by kernel_rfl
theorem zvo(w:World):((ReflectliteType.abiMethod fun t=>(fun a:Nat=>Value.int IntKind.u8 (a:Int)) <$> Rtype.kind t) #[.pointer (some ⟨3,199,none⟩)]).run Tryz.prog w=.ok (.int .u8 22) w:=by kernel_rfl
theorem zvp(w:World):((ReflectliteType.abiMethod fun t=>(fun a:Nat=>Value.int IntKind.u8 (a:Int)) <$> Rtype.kind t) #[.pointer (some ⟨3,197,none⟩)]).run Tryz.prog w=.ok (.int .u8 25) w:=by kernel_rfl
theorem zvq(z:Sem Value)(f:TypeId->Addr->Nat->Nat->Sem Value)(v:Value):
  ReflectliteValue.method z f #[v]=(do match ← ReflectliteValue.parts v with | none=>z | some (t,a,fl)=>f t a fl (fl % 32)):=rfl
theorem zkK(a:Addr)(w:World):(ReflectliteValue.parts (.agg #[.pointer (some ⟨3,199,none⟩),.pointer (some a),.int .u64 150])).run Tryz.prog w=.ok (some (199,a,150)) w:=by kernel_rfl
theorem ztf(a p:Addr)(W:World)(ha:W.cell? a=some (.pointer (some p))):
  (ReflectliteValue.method (ReflectliteValue.valueError "reflectlite.Value.IsNil" 0) ReflectliteValue.isNil #[.agg #[.pointer (some ⟨3,199,none⟩),.pointer (some a),.int .u64 150]]).run Tryz.prog W=.ok (.bool false) W:=by
 rw [zvq];simp only [Sem.run_bind,zkK,Result.andThen];simp [ReflectliteValue.isNil,loadVar,isAgg,underlying,Tryz.underlying199,ha,Result.andThen]
theorem zkj(h:Value)(w:World):(Go.method 488 291 (.agg #[h]) "Elem").run Tryz.prog w=.ok (377,.agg #[h]) w:=by kernel_rfl
theorem zeh(h:Value)(w:World):(Go.method 488 291 (.agg #[h]) "Implements").run Tryz.prog w=.ok (378,.agg #[h]) w:=by kernel_rfl
theorem zcB(h:Value)(w:World):(Go.method 488 291 (.agg #[h]) "AssignableTo").run Tryz.prog w=.ok (375,.agg #[h]) w:=by kernel_rfl
theorem zvr(w:World):(ReflectliteType.method ReflectliteType.elem #[.agg #[.pointer (some ⟨3,199,none⟩)]]).run Tryz.prog w=.ok (.iface 291 (.agg #[.pointer (some ⟨3,197,none⟩)])) w:=by kernel_rfl
theorem ziF(w:World):(ReflectliteType.relation "Implements" ReflectliteType.implements_ #[.agg #[.pointer (some ⟨3,197,none⟩)],.iface 291 (.agg #[.pointer (some ⟨3,194,none⟩)])]).run Tryz.prog w=.ok (.bool true) w:=by kernel_rfl
theorem zp6(v:Value)(w:World):(ReflectliteType.typeOf #[.iface 197 v]).run Tryz.prog w=.ok (.iface 291 (.agg #[.pointer (some ⟨3,197,none⟩)])) w:=by kernel_rfl
theorem ziG(w:World):(ReflectliteType.relation "AssignableTo" ReflectliteType.assignableTo #[.agg #[.pointer (some ⟨3,197,none⟩)],.iface 291 (.agg #[.pointer (some ⟨3,197,none⟩)])]).run Tryz.prog w=.ok (.bool true) w:=by kernel_rfl
theorem znT(c u:Value)(w:World):(ReflectliteValue.unpack (.iface 197 (.agg #[c,u]))).run Tryz.prog w
  =.ok (.agg #[.pointer (some ⟨3,197,none⟩),.pointer (some ⟨w.heap.size,0,none⟩),.int .u64 153]) (w.alloc (.cells #[c,u] 197)):=by kernel_rfl
theorem zp7(w:World):(Rtype.elem? 199).run Tryz.prog w=.ok (some 197) w:=by kernel_rfl
theorem zA3(p:Addr)(w:World):(ReflectliteValue.mk 197 p ReflectliteValue.flagAddr).run Tryz.prog w=.ok (.agg #[.pointer (some ⟨3,197,none⟩),.pointer (some p),.int .u64 409]) w:=by kernel_rfl
theorem ztg(a p:Addr)(W:World)(ha:W.cell? a=some (.pointer (some p))):
  (ReflectliteValue.method (ReflectliteValue.valueError "reflectlite.Value.Elem" 0) ReflectliteValue.elem #[.agg #[.pointer (some ⟨3,199,none⟩),.pointer (some a),.int .u64 150]]).run Tryz.prog W
   =.ok (.agg #[.pointer (some ⟨3,197,none⟩),.pointer (some p),.int .u64 409]) W:=by
 rw [zvq];simp only [Sem.run_bind,zkK,Result.andThen];simp [ReflectliteValue.elem,loadVar,isAgg,underlying,Tryz.underlying199,ha,Result.andThen,zp7,zA3]
theorem zA4(v x:Value):ReflectliteValue.set #[v,x]=(do
  let (some (dst,a,fl),some (src,b,_)):=(← ReflectliteValue.parts v,← ReflectliteValue.parts x)
   | unsupported (.noEntry "extern/(internal/reflectlite.Value).Set.zeroValue")
  if fl / ReflectliteValue.flagAddr % 2==0 then unsupported (.noEntry "extern/(internal/reflectlite.Value).Set.unaddressable")
  let val ← loadVar src b
  if ← Rtype.directlyAssignable dst src then storeVar dst a val
  else if ← Rtype.implements dst src then
   if (← Rtype.kind src)==20 then
    match val with
    | .nilIface=>unsupported (.noEntry "extern/reflectlite: a nil value of one interface type handed on as a value of another")
    | _=>storeVar dst a val
   else storeVar dst a (.iface src val)
  else panicString ("reflectlite.Set: value of type " ++(← Rtype.spelt src)++ " is not assignable to type " ++(← Rtype.spelt dst))
  pure (.tuple #[])):=rfl
theorem zp8(a:Addr)(w:World):(ReflectliteValue.parts (.agg #[.pointer (some ⟨3,197,none⟩),.pointer (some a),.int .u64 409])).run Tryz.prog w=.ok (some (197,a,409)) w:=by kernel_rfl
theorem zth(a:Addr)(w:World):(ReflectliteValue.parts (.agg #[.pointer (some ⟨3,197,none⟩),.pointer (some a),.int .u64 153])).run Tryz.prog w=.ok (some (197,a,153)) w:=by kernel_rfl
theorem zp9(w:World):(Rtype.directlyAssignable 197 197).run Tryz.prog w=.ok true w:=by kernel_rfl
theorem znU:∃i,ti tt 197=some i/\i.sz=2/\i.kind.agg=true:=⟨_,rfl,rfl,rfl⟩
theorem zvs(c u:Value)(s:Nat)(W:World)(h:W.heap[s]? =some (.cells #[c,u] 197 (0,0))):
  (loadVar 197 ⟨s,0,none⟩).run Tryz.prog W=.ok (.agg #[c,u]) W:=by
 obtain ⟨i,hi,hs,ha⟩:=znU;have hT:=tok _ i hi
 have hl:=run_loadCells_list (P:=Tryz.prog) W ⟨s,0,none⟩ [c,u] (fun j v hv=>by
  rw [ya]
  match j,hv with
  | 0,hv=>cases hv;simp [World.cell?,h]
  | 1,hv=>cases hv;simp [World.cell?,h]
  | j+2,hv=>simp at hv)
 unfold loadVar;rw [Sem.run_bind,hT.agg W,Result.andThen_ok,ha];simp only [if_true,Sem.run_bind,hT.size,Result.andThen_ok,hs];simp at hl;simp [hl]
theorem zti(c u:Value)(b:Nat)(cur:Array Value)(W:World)(hc:cur.size=2)(h:W.heap[b]? =some (.cells cur 197 (0,0)))(h1:c.oneCell'=true)(h2:u.oneCell'=true):
  (storeVar 197 ⟨b,0,none⟩ (.agg #[c,u])).run Tryz.prog W=.ok () (W.setRow b #[c,u]):=by
 obtain ⟨i,hi,hs,ha⟩:=znU
 have:=uW (tok _ i hi) (v:=.agg #[c,u]) (off:=0) h (by rw [hs];rfl) (by rw [hs,hc];decide) (fun x hx=>by
  have hx:x∈[c,u]:=hx;simp only [List.mem_cons,List.not_mem_nil,or_false] at hx
  rcases hx with rfl | rfl <;> assumption)
 rw [this,List.drop_eq_nil_of_le (by simp [hs,hc]:cur.toList.length<=0+i.sz),List.take_zero,List.nil_append,List.append_nil];rfl
theorem zyL (b s:Nat) (c u:Value) (cur:Array Value) (W:World) (hs:W.heap[s]? =some (.cells #[c,u] 197 (0,0))) (hc:cur.size=2)
  (hb:W.heap[b]? =some (.cells cur 197 (0,0))) (h1:c.oneCell'=true) (h2:u.oneCell'=true):
  (ReflectliteValue.set #[.agg #[.pointer (some ⟨3,197,none⟩),.pointer (some ⟨b,0,none⟩),.int .u64 409],.agg #[.pointer (some ⟨3,197,none⟩),.pointer (some ⟨s,0,none⟩),.int .u64 153]]).run Tryz.prog W
   =.ok (.tuple #[]) (W.setRow b #[c,u]):=by
 rw [zA4];simp only [Sem.run_bind,zp8,zth,Result.andThen];simp [ReflectliteValue.flagAddr,zvs c u s W hs,zp9,zti c u b cur W hc hb h1 h2,Result.andThen]
theorem ztj (b:Nat) (c u:Value) (cur:Array Value) (w:World) (hg:w.cell? ⟨0,0,none⟩=some (.iface 291 (.agg #[.pointer (some ⟨3,194,none⟩)]))) (hc:cur.size=2)
  (hb:w.heap[b]? =some (.cells cur 197 (0,0))) (h1:c.oneCell'=true) (h2:u.oneCell'=true):
  Calls Tryz.prog 165 #[.iface 197 (.agg #[c,u]),.iface 199 (.pointer (some ⟨b,0,none⟩))] w fun ev w'=>ev=.returned (.bool true)/\w'=((((w.alloc (.cells #[.pointer (some ⟨b,0,none⟩)] 199)).alloc (.cells #[.pointer (some ⟨3,199,none⟩),.pointer (some ⟨w.heap.size,0,none⟩),.int .u64 150] 246)).alloc (.cells #[.pointer (some ⟨3,199,none⟩),.pointer (some ⟨w.heap.size,0,none⟩),.int .u64 150] 246)).alloc (.cells #[c,u] 197)).setRow b #[c,u]:=by
 have hV:=@run_callFunc_extern Tryz.prog 223 _ (fun args=>ReflectliteValue.unpack (args.getD 0 (.tuple #[]))) Tryz.func223 (by kernel_rfl) (by kernel_rfl) (by kernel_rfl) (by kernel_rfl);have hTy:=@run_callFunc_extern Tryz.prog 224 _ (ReflectliteValue.methodAny (ReflectliteValue.valueError "reflectlite.Value.Type" 0) (fun t _ _ _=>ReflectliteType.toType t)) Tryz.func224 (by kernel_rfl) (by kernel_rfl) (by kernel_rfl) (by kernel_rfl)
 have hN:=@run_callFunc_extern Tryz.prog 225 _ (ReflectliteValue.method (ReflectliteValue.valueError "reflectlite.Value.IsNil" 0) ReflectliteValue.isNil) Tryz.func225 (by kernel_rfl) (by kernel_rfl) (by kernel_rfl) (by kernel_rfl);have hK:=@run_callFunc_extern Tryz.prog 366 _ (ReflectliteType.abiMethod fun t=>do pure (.int .u8 (← Rtype.kind t))) Tryz.func366 (by kernel_rfl) (by kernel_rfl) (by kernel_rfl) (by kernel_rfl)
 have hE:=@run_callFunc_extern Tryz.prog 377 _ (ReflectliteType.method ReflectliteType.elem) Tryz.func377 (by kernel_rfl) (by kernel_rfl) (by kernel_rfl) (by kernel_rfl);have hI:=@run_callFunc_extern Tryz.prog 378 _ (ReflectliteType.relation "Implements" ReflectliteType.implements_) Tryz.func378 (by kernel_rfl) (by kernel_rfl) (by kernel_rfl) (by kernel_rfl);have hO:=@run_callFunc_extern Tryz.prog 268 _ ReflectliteType.typeOf Tryz.func268 (by kernel_rfl) (by kernel_rfl) (by kernel_rfl) (by kernel_rfl)
 have hA:=@run_callFunc_extern Tryz.prog 375 _ (ReflectliteType.relation "AssignableTo" ReflectliteType.assignableTo) Tryz.func375 (by kernel_rfl) (by kernel_rfl) (by kernel_rfl) (by kernel_rfl);have hEl:=@run_callFunc_extern Tryz.prog 269 _ (ReflectliteValue.method (ReflectliteValue.valueError "reflectlite.Value.Elem" 0) ReflectliteValue.elem) Tryz.func269 (by kernel_rfl) (by kernel_rfl) (by kernel_rfl) (by kernel_rfl);have hS:=@run_callFunc_extern Tryz.prog 270 _ ReflectliteValue.set Tryz.func270 (by kernel_rfl) (by kernel_rfl) (by kernel_rfl) (by kernel_rfl);have tO:=zp6
 have mA:=zcB;have aW:=ziG;have vW:=znT;have f6:=znS;have f7:=zvn;have mK:=zki;have mE:=zkj;have mI:=zeh;have kP:=zvo;have kW:=zvp;have eP:=zvr;have iW:=ziF;have n8:=ztf ⟨w.heap.size,0,none⟩ ⟨b,0,none⟩ ((w.alloc (.cells #[.pointer (some ⟨b,0,none⟩)] 199)).alloc (.cells #[.pointer (some ⟨3,199,none⟩),.pointer (some ⟨w.heap.size,0,none⟩),.int .u64 150] 246)) (by simp);have hlt:0 < w.heap.size:=znj hg
 have hg2:((w.alloc (.cells #[.pointer (some ⟨b,0,none⟩)] 199)).alloc (.cells #[.pointer (some ⟨3,199,none⟩),.pointer (some ⟨w.heap.size,0,none⟩),.int .u64 150] 246)).cell? ⟨0,0,none⟩=some (.iface 291 (.agg #[.pointer (some ⟨3,194,none⟩)])):=by
  rw [World.cell?_alloc_lt _ _ ⟨0,0,none⟩ (by first | (simp;done) | (simp;omega)),World.cell?_alloc_lt _ _ ⟨0,0,none⟩ hlt];exact hg
 have htl:b < w.heap.size:=by
  rcases Nat.lt_or_ge b w.heap.size with h | h
  ·exact h
  ·rw [Array.getElem?_eq_none h] at hb;cases hb
 have el:=ztg ⟨w.heap.size,0,none⟩ ⟨b,0,none⟩ (((w.alloc (.cells #[.pointer (some ⟨b,0,none⟩)] 199)).alloc (.cells #[.pointer (some ⟨3,199,none⟩),.pointer (some ⟨w.heap.size,0,none⟩),.int .u64 150] 246)).alloc (.cells #[.pointer (some ⟨3,199,none⟩),.pointer (some ⟨w.heap.size,0,none⟩),.int .u64 150] 246)) (by rw [World.cell?_alloc_lt _ _ ⟨w.heap.size,0,none⟩ (by first | (simp;done) | (simp;omega))];simp)
 have st:=zyL b (w.heap.size+1+1+1) c u cur ((((w.alloc (.cells #[.pointer (some ⟨b,0,none⟩)] 199)).alloc (.cells #[.pointer (some ⟨3,199,none⟩),.pointer (some ⟨w.heap.size,0,none⟩),.int .u64 150] 246)).alloc (.cells #[.pointer (some ⟨3,199,none⟩),.pointer (some ⟨w.heap.size,0,none⟩),.int .u64 150] 246)).alloc (.cells #[c,u] 197))
  (by have:=heap_alloc_new (((w.alloc (.cells #[.pointer (some ⟨b,0,none⟩)] 199)).alloc (.cells #[.pointer (some ⟨3,199,none⟩),.pointer (some ⟨w.heap.size,0,none⟩),.int .u64 150] 246)).alloc (.cells #[.pointer (some ⟨3,199,none⟩),.pointer (some ⟨w.heap.size,0,none⟩),.int .u64 150] 246)) (.cells #[c,u] 197);simpa using this) hc
  (by rw [heap_alloc_old _ _ (by first | (simp;done) | (simp;omega)),heap_alloc_old _ _ (by first | (simp;done) | (simp;omega)),heap_alloc_old _ _ (by first | (simp;done) | (simp;omega)),heap_alloc_old _ _ htl];exact hb) h1 h2
 go_enter Tryz.func165,Tryz.ntmps165
 go_wp2
 refine wp_loop_rounds 1 ?_;rw [rounds_succ]
 go_wp2
 go_ret
 exact ⟨rfl,rfl⟩
open Go.Proofs
inductive Er
 | nil
 | w (c:Int) (u:Er)
def erV:Er->Value
 | .nil=>.nilIface
 | .w c u=>.iface 197 (.agg #[.int .i64 c,erV u])
theorem er_if(e:Er):ifB (erV e)=true:=by cases e <;> rfl
theorem zvv(e:Er):(erV e).oneCell'=true:=by cases e <;> rfl
def zvw(e:Er):List SV:=[.op (erV e)]
theorem LE_er{c:Int}{u:Er}:LE (.ifc 197 (.agg [i64 c,.op (erV u)])) (.op (erV (.w c u))):=fun S Pm ρ w v hg=>by
 obtain ⟨x,rfl,hx⟩:=hg.ifc_inv;obtain ⟨vs,rfl,hvs⟩:=hx.agg_inv;obtain ⟨a,r,rfl,ha,hr⟩:=hvs.cons_inv;obtain ⟨b,r',rfl,hb,hr'⟩:=hr.cons_inv;rw [hr'.nil_inv,ha.val_inv,hb.op_inv.1];exact .d _ _ (.op _ rfl)
theorem zA5{c:Int}:LE (.ifc 197 (.agg [i64 c,.val .nilIface])) (.op (erV (.w c .nil))):=fun S Pm ρ w v hg=>by
 obtain ⟨x,rfl,hx⟩:=hg.ifc_inv;obtain ⟨vs,rfl,hvs⟩:=hx.agg_inv;obtain ⟨a,r,rfl,ha,hr⟩:=hvs.cons_inv;obtain ⟨b,r',rfl,hb,hr'⟩:=hr.cons_inv;rw [hr'.nil_inv,ha.val_inv,hb.val_inv];exact .d _ _ (.op _ rfl)
def kJ(p:Prop)[Decidable p](c:Int):Er:=if p then .w c .nil else .nil
def zaF:List Er->Er
 | []=>.nil
 | .nil::r=>zaF r
 | .w c u::_=>.w 0 (.w c u)
theorem ziH:∀{l:List Er},(∀e∈l,e=.nil)->zaF l=.nil
 | [],_=>rfl
 | .nil::r,h=>ziH (l:=r) fun e he=>h e (.tail _ he)
 | .w c u::_,h=>by cases h _ (.head _)
theorem ziI:∀{l:List Er} {i:Nat} {c:Int} {u:Er},(∀e∈l.take i,e=.nil)->l[i]? =some (.w c u)->zaF l=.w 0 (.w c u)
 | [],i,c,u,_,hx=>by simp at hx
 | e::r,0,c,u,_,hx=>by simp at hx;subst hx;rfl
 | e::r,i+1,c,u,h,hx=>by
  have he:e=.nil:=h e (by rw [List.take_succ_cons];exact .head _);subst he;exact ziI (l:=r) (i:=i) (fun e he=>h e (by rw [List.take_succ_cons];exact .tail _ he)) (by simpa using hx)
theorem yn(p:Prop)[Decidable p](c:Int):zd Tryz.prog 217 [pr p,i64 c] [] (.op (erV (kJ p c))) []:=by
 refine zc tok mix Tryz.func217 rfl rfl rfl ?_;refine Br.mk (fun h=>?_) (fun h=>?_)
 ·rw [kJ,if_neg h];exact zrv rfl
 ·rw [kJ,if_pos (Decidable.not_not.1 h)];exact zA5
theorem zmf(l:List Er):zd Tryz.prog 216 [.sl zvw l] [] (.op (erV (zaF l))) []:=by
 refine zc tok mix Tryz.func216 rfl rfl rfl ?_;intro hl;refine ⟨Nat,fun i=>⟨[(7,i64 (i:Int)),(6,i64 (l.length:Int)),(5,.sl zvw l)],[],0,17,0⟩,fun i=>i<=l.length/\∀e∈l.take i,e=.nil,fun i=>l.length - i,0,⟨Nat.zero_le _,fun t ht=>by cases ht⟩,?_,?_⟩
 ·exact zf []
 rintro i ⟨h1,h2⟩
 refine Br.mk (fun g=>?_) (fun g=>?_)
 ·have g:(i:Int) < l.length:=g;refine Ob.o ?_;intro x hx;have hx:l[i]? =some x:=hx;refine Br.mk (fun h=>?_) (fun h=>?_)
  ·cases x with
   | nil=>exact absurd rfl h
   | w c u=>rw [ziI h2 hx];exact LE_er
  ·cases x with
   | w c u=>exact absurd (fun h=>by cases h) h
   | nil=>
    refine Ar.o ?_;refine ⟨i+1,⟨oM,fun e he=>?_⟩,zf [],by dsimp only;omega⟩;rw [List.take_add_one,hx] at he
    rcases List.mem_append.1 he with he | he
    ·exact h2 e he
    ·simpa using he
 have g:¬(i:Int) < l.length:=g;rw [List.take_of_length_le oM] at h2;rw [ziH h2];exact zrv rfl
theorem glE:GL 0 (.iface 291 (.agg #[.pointer (some ⟨3,194,none⟩)])):=.head _
theorem zg8:zbn Tryz.prog 165:=⟨_,Tryz.func165,rfl,rfl⟩
theorem znV(x y:SV):zd Tryz.prog 165 [.op (erV .nil),.ifc 199 (.loc 0 0)] [(0,.box 197 [x,y])] (bl false) [(0,.box 197 [x,y])]:=by
 refine ⟨zg8,fun Keep ρ w vs _ hm hρ hg=>?_⟩;obtain ⟨a,r,rfl,ha,hr⟩:=hg.cons_inv;obtain ⟨b,r',rfl,hb,hr'⟩:=hr.cons_inv;obtain rfl:=hr'.nil_inv;obtain rfl:=ha.op_inv.1;refine (zte b w).mono ?_
 rintro e w' ⟨rfl,rfl⟩
 exact ⟨_,ρ,rfl,.refl,hm,.d _ _ (.val _)⟩
theorem zJ.more{Keep:Nat->Prop}{M:List (Nat×Mem)}{ρ:zi}{w:World}(hm:zJ Keep M ρ w)(c:Array Value)(t:TypeId):Stp (Own M ρ) (Own M ρ) ρ ρ w (w.alloc (.cells c t))/\zJ Keep M ρ (w.alloc (.cells c t)):=
 hm.same rfl rfl (.cells _ _ _) (by simp) (fun b hb=>heap_alloc_old w _ hb)
theorem znW(c:Int)(u:Er)(x y:SV):zd Tryz.prog 165 [.op (erV (.w c u)),.ifc 199 (.loc 0 0)] [(0,.box 197 [x,y])] (bl true) [(0,.box 197 [i64 c,.op (erV u)])]:=by
 refine ⟨zg8,fun Keep ρ w vs _ hm hρ hg=>?_⟩;obtain ⟨a,r,rfl,ha,hr⟩:=hg.cons_inv;obtain ⟨b,r',rfl,hb,hr'⟩:=hr.cons_inv;obtain rfl:=hr'.nil_inv;obtain rfl:=ha.op_inv.1;obtain ⟨p,rfl,hp⟩:=hb.ifc_inv;obtain ⟨k,hk,rfl⟩:=hp.loc_inv;obtain ⟨k',cs,hρ0,hheap,hlen,hone,hcells⟩:=hm.rel 0 _ (.head _);rw [hk] at hρ0;cases hρ0
 refine (ztj k (.int .i64 c) (erV u) cs.toArray w (hm.glc glE) (by simp [hlen]) hheap rfl (zvv u)).mono ?_
 rintro e w' ⟨rfl,rfl⟩
 obtain ⟨s1,m1⟩:=hm.more #[.pointer (some ⟨k,0,none⟩)] 199;obtain ⟨s2,m2⟩:=m1.more #[.pointer (some ⟨3,199,none⟩),.pointer (some ⟨w.heap.size,0,none⟩),.int .u64 150] 246;obtain ⟨s3,m3⟩:=m2.more #[.pointer (some ⟨3,199,none⟩),.pointer (some ⟨w.heap.size,0,none⟩),.int .u64 150] 246;obtain ⟨s4,m4⟩:=m3.more #[.int .i64 c,erV u] 197;obtain ⟨k2,cs2,hρ2,hheap2,hlen2,_,_⟩:=m4.rel 0 _ (.head _);rw [hk] at hρ2;cases hρ2
 obtain ⟨s5,m5⟩:=m4.write (.box 197 [i64 c,.op (erV u)]) (.head _) hk rfl #[.int .i64 c,erV u] fun hs=>
  ⟨k,[.int .i64 c,erV u],hk,by simpa using setRow_heap _ k _ _ 197 _ hheap2,rfl,fun v hv=>by
   simp only [List.mem_cons,List.not_mem_nil,or_false] at hv
   rcases hv with rfl | rfl
   ·rfl
   ·exact zvv u,fun j s v hs hv=>by
   match j with
   | 0=>cases hs;cases hv;exact .d _ _ (.val _)
   | 1=>cases hs;cases hv;exact .d _ _ (.op _ (er_if u))
   | j+2=>simp at hs⟩
 exact ⟨_,ρ,rfl,(((s1.trans s2).trans s3).trans s4).trans s5,m5,.d _ _ (.val _)⟩
end Go.Gs
namespace Go.Gs
open Go.ChangeShapes Go.WideShapes Go.Deep Go.Joins Go.RowKit
section
variable {H:Type} {enc:TypeId×Value->H} {P:Program} {w:World} {base:Nat} {held:Bool}
end
theorem args_stay{H:Type}{enc:TypeId×Value->H}{P:Program}(hl:laidOutB P=true){W W':World}(hb:Below W.heap.size W W'){sp:Nat->Bool}:
  ∀{ts:List TypeId} {vs:List Value} {ds:List (DataW H)} {ps:List MemPlace},(ts.all fun t=>P.readableRec t&&decide (t < P.types.size))=true->
   DataW.TrodAll enc P W 0 (fun _=>true) true ts vs ds ps->(∀p∈ps,p.block < W.heap.size)->(∀p∈ps,sp p.block=true)->DataW.TrodAll enc P W' 0 sp true ts vs ds ps
 | [],[],[],_,_,h,_,_=>h
 | t::ts,v::vs,d::ds,ps,hts,⟨p,q,h1,h2,e⟩,hlt,hsp=>by
  simp only [List.all_cons,Bool.and_eq_true,decide_eq_true_eq] at hts;have e1:∀x∈p,x∈ps:=fun x hx=>by rw [e];exact List.mem_append_left _ hx
  have e2:∀x∈q,x∈ps:=fun x hx=>by rw [e];exact List.mem_append_right _ hx
  refine ⟨p,q,WideElems.Trod_stays hl hts.1.1 hts.1.2 h1 (fun x hx=>hb.same (hlt x (e1 x hx))) (fun x hx=>hsp x (e1 x hx)),args_stay hl hb (by simpa using hts.2) h2 (fun x hx=>hlt x (e2 x hx)) (fun x hx=>hsp x (e2 x hx)),e⟩
end Go.Gs
