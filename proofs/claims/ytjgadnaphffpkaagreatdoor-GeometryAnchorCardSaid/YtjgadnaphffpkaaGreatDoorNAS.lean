/- errors.As at the error of a node ('wrong'), by the kit's walk: nil; the error's own type is the target's. -/
import Derived.Test.YtjgadnaphffpkaaGreatDoorNA
import Derived.Test.YtjgadnaphffpkaaGreatDoorNAH
import Derived.WalkKit
import Derived.LaidEql
import Derived.Stop.Asserts
import Derived.RowKitTokens
import Derived.Test.YtjgadnaphffpkaaGreatDoorNAI
import Derived.Deep.Slices
import Derived.Deep.Fields
import Derived.ChangeSame
import Derived.Lib.SmallJoins
import Derived.ProofKit
import Derived.OpenShut
import Derived.Carry
import Derived.Test.YtjgadnaphffpkaaGreatDoorNAQ
set_option maxRecDepth 100000
set_option maxHeartbeats 8000000
set_option linter.all false
namespace Go.Gs
open Go.Proofs Go.RowKit Go.Extern.Stop Go.Stop Go.Extern
theorem zuv(t:Value)(w:World):Calls Tryz.prog 208 #[.nilIface,t] w λe w'=>e=.returned (.bool false)/\w'=w:=by
 go_enter Tryz.func208,Tryz.ntmps208
 go_wp2
 go_ret
 exact⟨rfl,rfl⟩
theorem zo7(t:Addr)(w:World):(ReflectliteValue.unpack (.iface 236 (.pointer (some t)))).run Tryz.prog w
  =.ok (.agg #[.pointer (some ⟨3,236,none⟩),.pointer (some ⟨w.heap.size,0,none⟩),.int .u64 150]) (w.alloc (.cells #[.pointer (some t)] 236)):=by kernel_rfl
theorem zwv(a:Addr)(w:World):(ReflectliteValue.methodAny (ReflectliteValue.valueError "reflectlite.Value.Type" 0) (λt _ _ _=>ReflectliteType.toType t) #[.agg #[.pointer (some ⟨3,236,none⟩),.pointer (some a),.int .u64 150]]).run Tryz.prog w
  =.ok (.iface 321 (.agg #[.pointer (some ⟨3,236,none⟩)])) w:=by kernel_rfl
theorem zlm(h:Value)(w:World):(Go.method 500 321 (.agg #[h]) "Kind").run Tryz.prog w=.ok (434,h) w:=by kernel_rfl
theorem zww(w:World):((ReflectliteType.abiMethod λt=>(λa:Nat=>Value.int IntKind.u8 (a:Int)) <$> Rtype.kind t) #[.pointer (some ⟨3,236,none⟩)]).run Tryz.prog w=.ok (.int .u8 22) w:=by kernel_rfl
theorem zwx(w:World):((ReflectliteType.abiMethod λt=>(λa:Nat=>Value.int IntKind.u8 (a:Int)) <$> Rtype.kind t) #[.pointer (some ⟨3,234,none⟩)]).run Tryz.prog w=.ok (.int .u8 25) w:=by kernel_rfl
theorem zwy(z:Sem Value)(f:TypeId->Addr->Nat->Nat->Sem Value)(v:Value):
  ReflectliteValue.method z f #[v]=(do match ← ReflectliteValue.parts v with | none=>z | some (t,a,fl)=>f t a fl (fl % 32)):=rfl
theorem zlS(a:Addr)(w:World):(ReflectliteValue.parts (.agg #[.pointer (some ⟨3,236,none⟩),.pointer (some a),.int .u64 150])).run Tryz.prog w=.ok (some (236,a,150)) w:=by kernel_rfl
theorem zuw(a p:Addr)(W:World)(ha:W.cell? a=some (.pointer (some p))):
  (ReflectliteValue.method (ReflectliteValue.valueError "reflectlite.Value.IsNil" 0) ReflectliteValue.isNil #[.agg #[.pointer (some ⟨3,236,none⟩),.pointer (some a),.int .u64 150]]).run Tryz.prog W=.ok (.bool false) W:=by
 rw[zwy];simp only[Sem.run_bind,zlS,Result.andThen];simp[ReflectliteValue.isNil,loadVar,isAgg,underlying,Tryz.underlying236,ha,Result.andThen]
theorem zln(h:Value)(w:World):(Go.method 500 321 (.agg #[h]) "Elem").run Tryz.prog w=.ok (445,.agg #[h]) w:=by kernel_rfl
theorem zeM(h:Value)(w:World):(Go.method 500 321 (.agg #[h]) "Implements").run Tryz.prog w=.ok (446,.agg #[h]) w:=by kernel_rfl
theorem zc8(h:Value)(w:World):(Go.method 500 321 (.agg #[h]) "AssignableTo").run Tryz.prog w=.ok (443,.agg #[h]) w:=by kernel_rfl
theorem zwz(w:World):(ReflectliteType.method ReflectliteType.elem #[.agg #[.pointer (some ⟨3,236,none⟩)]]).run Tryz.prog w=.ok (.iface 321 (.agg #[.pointer (some ⟨3,234,none⟩)])) w:=by kernel_rfl
theorem zjD(w:World):(ReflectliteType.relation "Implements" ReflectliteType.implements_ #[.agg #[.pointer (some ⟨3,234,none⟩)],.iface 321 (.agg #[.pointer (some ⟨3,231,none⟩)])]).run Tryz.prog w=.ok (.bool true) w:=by kernel_rfl
theorem zrx(v:Value)(w:World):(ReflectliteType.typeOf #[.iface 234 v]).run Tryz.prog w=.ok (.iface 321 (.agg #[.pointer (some ⟨3,234,none⟩)])) w:=by kernel_rfl
theorem zjE(w:World):(ReflectliteType.relation "AssignableTo" ReflectliteType.assignableTo #[.agg #[.pointer (some ⟨3,234,none⟩)],.iface 321 (.agg #[.pointer (some ⟨3,234,none⟩)])]).run Tryz.prog w=.ok (.bool true) w:=by kernel_rfl
theorem zo8(c u:Value)(w:World):(ReflectliteValue.unpack (.iface 234 (.agg #[c,u]))).run Tryz.prog w
  =.ok (.agg #[.pointer (some ⟨3,234,none⟩),.pointer (some ⟨w.heap.size,0,none⟩),.int .u64 153]) (w.alloc (.cells #[c,u] 234)):=by kernel_rfl
theorem zry(w:World):(Rtype.elem? 236).run Tryz.prog w=.ok (some 234) w:=by kernel_rfl
theorem zBK(p:Addr)(w:World):(ReflectliteValue.mk 234 p ReflectliteValue.flagAddr).run Tryz.prog w=.ok (.agg #[.pointer (some ⟨3,234,none⟩),.pointer (some p),.int .u64 409]) w:=by kernel_rfl
theorem zux(a p:Addr)(W:World)(ha:W.cell? a=some (.pointer (some p))):
  (ReflectliteValue.method (ReflectliteValue.valueError "reflectlite.Value.Elem" 0) ReflectliteValue.elem #[.agg #[.pointer (some ⟨3,236,none⟩),.pointer (some a),.int .u64 150]]).run Tryz.prog W
   =.ok (.agg #[.pointer (some ⟨3,234,none⟩),.pointer (some p),.int .u64 409]) W:=by
 rw[zwy];simp only[Sem.run_bind,zlS,Result.andThen];simp[ReflectliteValue.elem,loadVar,isAgg,underlying,Tryz.underlying236,ha,Result.andThen,zry,zBK]
theorem zBL(v x:Value):ReflectliteValue.set #[v,x]=(do
  let (some (dst,a,fl),some (src,b,_)):=(← ReflectliteValue.parts v,← ReflectliteValue.parts x)
   | unsupported (.noEntry "extern/(internal/reflectlite.Value).Set.zeroValue")
  if fl / ReflectliteValue.flagAddr % 2==0 then unsupported (.noEntry "extern/(internal/reflectlite.Value).Set.unaddressable")
  let val ← loadVar src b
  if ← Rtype.directlyAssignable dst src then storeVar dst a val
  else if ← Rtype.implements dst src then
   if (← Rtype.kind src)==20 then
    match val with
    | .nilIface=>unsupported (.noEntry "extern/reflectlite: a nil value of one interface type handed on as a value of another")
    | _=>storeVar dst a val
   else storeVar dst a (.iface src val)
  else panicString ("reflectlite.Set: value of type " ++(← Rtype.spelt src)++ " is not assignable to type " ++(← Rtype.spelt dst))
  pure (.tuple #[])):=rfl
theorem zrz(a:Addr)(w:World):(ReflectliteValue.parts (.agg #[.pointer (some ⟨3,234,none⟩),.pointer (some a),.int .u64 409])).run Tryz.prog w=.ok (some (234,a,409)) w:=by kernel_rfl
theorem zuy(a:Addr)(w:World):(ReflectliteValue.parts (.agg #[.pointer (some ⟨3,234,none⟩),.pointer (some a),.int .u64 153])).run Tryz.prog w=.ok (some (234,a,153)) w:=by kernel_rfl
theorem zrA(w:World):(Rtype.directlyAssignable 234 234).run Tryz.prog w=.ok true w:=by kernel_rfl
theorem zo9:∃i,ti tt 234=some i/\i.sz=2/\i.kind.agg=true:=⟨_,rfl,rfl,rfl⟩
theorem zwA(c u:Value)(s:Nat)(W:World)(h:W.heap[s]? =some (.cells #[c,u] 234 (0,0))):
  (loadVar 234 ⟨s,0,none⟩).run Tryz.prog W=.ok (.agg #[c,u]) W:=by
 obtain⟨i,hi,hs,ha⟩:=zo9;have hT:=tok _ i hi
 have hl:=run_loadCells_list (P:=Tryz.prog) W ⟨s,0,none⟩ [c,u] (λj v hv=>by
  rw[yh]
  match j,hv with
  | 0,hv=>cases hv;simp[World.cell?,h]
  | 1,hv=>cases hv;simp[World.cell?,h]
  | j+2,hv=>simp at hv)
 unfold loadVar;rw[Sem.run_bind,hT.agg W,Result.andThen_ok,ha];simp only[if_true,Sem.run_bind,hT.size,Result.andThen_ok,hs];simp at hl;simp[hl]
theorem zuz(c u:Value)(b:Nat)(cur:Array Value)(W:World)(hc:cur.size=2)(h:W.heap[b]? =some (.cells cur 234 (0,0)))(h1:c.oneCell'=true)(h2:u.oneCell'=true):
  (storeVar 234 ⟨b,0,none⟩ (.agg #[c,u])).run Tryz.prog W=.ok () (W.setRow b #[c,u]):=by
 obtain⟨i,hi,hs,ha⟩:=zo9
 have:=vr (tok _ i hi) (v:=.agg #[c,u]) (off:=0) h (by rw[hs];rfl) (by rw[hs,hc];decide) (λx hx=>by
  have hx:x∈[c,u]:=hx;simp only[Kc,Kx,or_false]at hx
  rcases hx with rfl | rfl <;> assumption)
 rw[this,Ky (by simp[hs,hc]:cur.toList.length<=0+i.sz),JL,K5,Xy];rfl
theorem zzv (b s:Nat) (c u:Value) (cur:Array Value) (W:World) (hs:W.heap[s]? =some (.cells #[c,u] 234 (0,0))) (hc:cur.size=2)
  (hb:W.heap[b]? =some (.cells cur 234 (0,0))) (h1:c.oneCell'=true) (h2:u.oneCell'=true):
  (ReflectliteValue.set #[.agg #[.pointer (some ⟨3,234,none⟩),.pointer (some ⟨b,0,none⟩),.int .u64 409],.agg #[.pointer (some ⟨3,234,none⟩),.pointer (some ⟨s,0,none⟩),.int .u64 153]]).run Tryz.prog W
   =.ok (.tuple #[]) (W.setRow b #[c,u]):=by
 rw[zBL];simp only[Sem.run_bind,zrz,zuy,Result.andThen];simp[ReflectliteValue.flagAddr,zwA c u s W hs,zrA,zuz c u b cur W hc hb h1 h2,Result.andThen]
theorem zuA (b:Nat) (c u:Value) (cur:Array Value) (w:World) (hg:w.cell? ⟨0,0,none⟩=some (.iface 321 (.agg #[.pointer (some ⟨3,231,none⟩)]))) (hc:cur.size=2)
  (hb:w.heap[b]? =some (.cells cur 234 (0,0))) (h1:c.oneCell'=true) (h2:u.oneCell'=true):
  Calls Tryz.prog 208 #[.iface 234 (.agg #[c,u]),.iface 236 (.pointer (some ⟨b,0,none⟩))] w λev w'=>ev=.returned (.bool true)/\w'=((((w.alloc (.cells #[.pointer (some ⟨b,0,none⟩)] 236)).alloc (.cells #[.pointer (some ⟨3,236,none⟩),.pointer (some ⟨w.heap.size,0,none⟩),.int .u64 150] 272)).alloc (.cells #[.pointer (some ⟨3,236,none⟩),.pointer (some ⟨w.heap.size,0,none⟩),.int .u64 150] 272)).alloc (.cells #[c,u] 234)).setRow b #[c,u]:=by
 have hV:=@run_callFunc_extern Tryz.prog 267 _ (λargs=>ReflectliteValue.unpack (args.getD 0 (.tuple #[]))) Tryz.func267 (by kernel_rfl) (by kernel_rfl) (by kernel_rfl) (by kernel_rfl);have hTy:=@run_callFunc_extern Tryz.prog 268 _ (ReflectliteValue.methodAny (ReflectliteValue.valueError "reflectlite.Value.Type" 0) (λt _ _ _=>ReflectliteType.toType t)) Tryz.func268 (by kernel_rfl) (by kernel_rfl) (by kernel_rfl) (by kernel_rfl)
 have hN:=@run_callFunc_extern Tryz.prog 269 _ (ReflectliteValue.method (ReflectliteValue.valueError "reflectlite.Value.IsNil" 0) ReflectliteValue.isNil) Tryz.func269 (by kernel_rfl) (by kernel_rfl) (by kernel_rfl) (by kernel_rfl);have hK:=@run_callFunc_extern Tryz.prog 434 _ (ReflectliteType.abiMethod λt=>do pure (.int .u8 (← Rtype.kind t))) Tryz.func434 (by kernel_rfl) (by kernel_rfl) (by kernel_rfl) (by kernel_rfl)
 have hE:=@run_callFunc_extern Tryz.prog 445 _ (ReflectliteType.method ReflectliteType.elem) Tryz.func445 (by kernel_rfl) (by kernel_rfl) (by kernel_rfl) (by kernel_rfl);have hI:=@run_callFunc_extern Tryz.prog 446 _ (ReflectliteType.relation "Implements" ReflectliteType.implements_) Tryz.func446 (by kernel_rfl) (by kernel_rfl) (by kernel_rfl) (by kernel_rfl);have hO:=@run_callFunc_extern Tryz.prog 328 _ ReflectliteType.typeOf Tryz.func328 (by kernel_rfl) (by kernel_rfl) (by kernel_rfl) (by kernel_rfl)
 have hA:=@run_callFunc_extern Tryz.prog 443 _ (ReflectliteType.relation "AssignableTo" ReflectliteType.assignableTo) Tryz.func443 (by kernel_rfl) (by kernel_rfl) (by kernel_rfl) (by kernel_rfl);have hEl:=@run_callFunc_extern Tryz.prog 329 _ (ReflectliteValue.method (ReflectliteValue.valueError "reflectlite.Value.Elem" 0) ReflectliteValue.elem) Tryz.func329 (by kernel_rfl) (by kernel_rfl) (by kernel_rfl) (by kernel_rfl);have hS:=@run_callFunc_extern Tryz.prog 330 _ ReflectliteValue.set Tryz.func330 (by kernel_rfl) (by kernel_rfl) (by kernel_rfl) (by kernel_rfl);have tO:=zrx
 have mA:=zc8;have aW:=zjE;have vW:=zo8;have f6:=zo7;have f7:=zwv;have mK:=zlm;have mE:=zln;have mI:=zeM;have kP:=zww;have kW:=zwx;have eP:=zwz;have iW:=zjD;have n8:=zuw ⟨w.heap.size,0,none⟩ ⟨b,0,none⟩ ((w.alloc (.cells #[.pointer (some ⟨b,0,none⟩)] 236)).alloc (.cells #[.pointer (some ⟨3,236,none⟩),.pointer (some ⟨w.heap.size,0,none⟩),.int .u64 150] 272)) (by simp);have hlt:0 < w.heap.size:=zoz hg
 have hg2:((w.alloc (.cells #[.pointer (some ⟨b,0,none⟩)] 236)).alloc (.cells #[.pointer (some ⟨3,236,none⟩),.pointer (some ⟨w.heap.size,0,none⟩),.int .u64 150] 272)).cell? ⟨0,0,none⟩=some (.iface 321 (.agg #[.pointer (some ⟨3,231,none⟩)])):=by
  rw[World.cell?_alloc_lt _ _ ⟨0,0,none⟩ (by first | (simp;done) | (simp;omega)),World.cell?_alloc_lt _ _ ⟨0,0,none⟩ hlt];exact hg
 have htl:b < w.heap.size:=by
  rcases Qe b w.heap.size with h | h
  ·exact h
  ·rw[Kl h]at hb;cases hb
 have el:=zux ⟨w.heap.size,0,none⟩ ⟨b,0,none⟩ (((w.alloc (.cells #[.pointer (some ⟨b,0,none⟩)] 236)).alloc (.cells #[.pointer (some ⟨3,236,none⟩),.pointer (some ⟨w.heap.size,0,none⟩),.int .u64 150] 272)).alloc (.cells #[.pointer (some ⟨3,236,none⟩),.pointer (some ⟨w.heap.size,0,none⟩),.int .u64 150] 272)) (by rw[World.cell?_alloc_lt _ _ ⟨w.heap.size,0,none⟩ (by first | (simp;done) | (simp;omega))];simp)
 have st:=zzv b (w.heap.size+1+1+1) c u cur ((((w.alloc (.cells #[.pointer (some ⟨b,0,none⟩)] 236)).alloc (.cells #[.pointer (some ⟨3,236,none⟩),.pointer (some ⟨w.heap.size,0,none⟩),.int .u64 150] 272)).alloc (.cells #[.pointer (some ⟨3,236,none⟩),.pointer (some ⟨w.heap.size,0,none⟩),.int .u64 150] 272)).alloc (.cells #[c,u] 234))
  (by have:=heap_alloc_new (((w.alloc (.cells #[.pointer (some ⟨b,0,none⟩)] 236)).alloc (.cells #[.pointer (some ⟨3,236,none⟩),.pointer (some ⟨w.heap.size,0,none⟩),.int .u64 150] 272)).alloc (.cells #[.pointer (some ⟨3,236,none⟩),.pointer (some ⟨w.heap.size,0,none⟩),.int .u64 150] 272)) (.cells #[c,u] 234);simpa using this) hc
  (by rw[heap_alloc_old _ _ (by first | (simp;done) | (simp;omega)),heap_alloc_old _ _ (by first | (simp;done) | (simp;omega)),heap_alloc_old _ _ (by first | (simp;done) | (simp;omega)),heap_alloc_old _ _ htl];exact hb) h1 h2
 go_enter Tryz.func208,Tryz.ntmps208
 go_wp2
 refine wp_loop_rounds 1 ?_;rw[rounds_succ]
 go_wp2
 go_ret
 exact⟨rfl,rfl⟩
open Go.Proofs
inductive Er
 | nil
 | w (c:Int) (u:Er)
def erV:Er->Value
 | .nil=>.nilIface
 | .w c u=>.iface 234 (.agg #[.int .i64 c,erV u])
theorem er_if(e:Er):ifB (erV e)=true:=by cases e <;> rfl
theorem zwD(e:Er):(erV e).oneCell'=true:=by cases e <;> rfl
def zwE(e:Er):List SV:=[.op (erV e)]
theorem LE_er{c:Int}{u:Er}:LE (.ifc 234 (.agg [i64 c,.op (erV u)])) (.op (erV (.w c u))):=λS Pm ρ w v hg=>by
 obtain⟨x,rfl,hx⟩:=hg.ifc_inv;obtain⟨vs,rfl,hvs⟩:=hx.agg_inv;obtain⟨a,r,rfl,ha,hr⟩:=hvs.cons_inv;obtain⟨b,r',rfl,hb,hr'⟩:=hr.cons_inv;rw[hr'.nil_inv,ha.val_inv,hb.op_inv.1];exact .d _ _ (.op _ rfl)
theorem zBM{c:Int}:LE (.ifc 234 (.agg [i64 c,.val .nilIface])) (.op (erV (.w c .nil))):=λS Pm ρ w v hg=>by
 obtain⟨x,rfl,hx⟩:=hg.ifc_inv;obtain⟨vs,rfl,hvs⟩:=hx.agg_inv;obtain⟨a,r,rfl,ha,hr⟩:=hvs.cons_inv;obtain⟨b,r',rfl,hb,hr'⟩:=hr.cons_inv;rw[hr'.nil_inv,ha.val_inv,hb.val_inv];exact .d _ _ (.op _ rfl)
def qa(p:Prop)[Decidable p](c:Int):Er:=if p then .w c .nil else .nil
def za6:List Er->Er
 | []=>.nil
 | .nil::r=>za6 r
 | .w c u::_=>.w 0 (.w c u)
theorem zjF:∀{l:List Er},(∀e∈l,e=.nil)->za6 l=.nil
 | [],_=>rfl
 | .nil::r,h=>zjF (l:=r) λe he=>h e (.tail _ he)
 | .w c u::_,h=>by cases h _ (.head _)
theorem zjG:∀{l:List Er} {i:Nat} {c:Int} {u:Er},(∀e∈l.take i,e=.nil)->l[i]? =some (.w c u)->za6 l=.w 0 (.w c u)
 | [],i,c,u,_,hx=>by simp at hx
 | e::r,0,c,u,_,hx=>by simp at hx;subst hx;rfl
 | e::r,i+1,c,u,h,hx=>by
  have he:e=.nil:=h e (by rw[Kk];exact .head _);subst he;exact zjG (l:=r) (i:=i) (λe he=>h e (by rw[Kk];exact .tail _ he)) (by simpa using hx)
theorem yG(p:Prop)[Decidable p](c:Int):CG0 261 [pr p,i64 c] [] (.op (erV (qa p c))) []:=by
 refine zc Tryz.func261 ?_;refine⟨λh=>?_,λh=>?_⟩
 ·rw[qa,if_neg h];exact zsM rfl
 ·rw[qa,if_pos (Xa.1 h)];exact zBM
theorem znp(l:List Er):CG0 260 [.sl zwE l] [] (.op (erV (za6 l))) []:=by
 refine zc Tryz.func260 ?_;intro hl;refine⟨Nat,λi=>⟨[(7,i64 (i:Int)),(6,i64 (l.length:Int)),(5,.sl zwE l)],[],0,17,0⟩,λi=>i<=l.length/\∀e∈l.take i,e=.nil,λi=>l.length - i,0,⟨Xe _,λt ht=>by cases ht⟩,?_,?_⟩
 ·exact zE []
 rintro i ⟨h1,h2⟩
 refine⟨λg=>?_,λg=>?_⟩
 ·have g:(i:Int) < l.length:=g;refine Ob.o ?_;intro x hx;have hx:l[i]? =some x:=hx;refine⟨λh=>?_,λh=>?_⟩
  ·cases x with
   | nil=>exact absurd rfl h
   | w c u=>rw[zjG h2 hx];exact LE_er
  ·cases x with
   | w c u=>exact absurd (λh=>by cases h) h
   | nil=>
    refine Ar.o<|⟨i+1,⟨oM,λe he=>?_⟩,zE [],by dsimp only;omega⟩;rw[Xm,hx]at he
    rcases Xo.1 he with he | he
    ·exact h2 e he
    ·simpa using he
 have g:¬(i:Int) < l.length:=g;rw[Xf oM]at h2;rw[zjF h2];exact zsM rfl
theorem glE:GL 0 (.iface 321 (.agg #[.pointer (some ⟨3,231,none⟩)])):=.head _
theorem zh2:zbP Tryz.prog 208:=⟨_,Tryz.func208,rfl,rfl⟩
theorem zpa(x y:SV):CG0 208 [.op (erV .nil),.ifc 236 (.loc 0 0)] [(0,.box 234 [x,y])] (bl false) [(0,.box 234 [x,y])]:=by
 refine⟨zh2,λKeep ρ w vs _ hm hρ hg=>?_⟩;obtain⟨a,r,rfl,ha,hr⟩:=hg.cons_inv;obtain⟨b,r',rfl,hb,hr'⟩:=hr.cons_inv;obtain rfl:=hr'.nil_inv;obtain rfl:=ha.op_inv.1;refine(zuv b w).mono ?_
 rintro e w' ⟨rfl,rfl⟩
 exact⟨_,ρ,rfl,.refl,hm,.d _ _ (.val _)⟩
theorem zO.more{Keep:Nat->Prop}{M:List (Nat×Mem)}{ρ:zk}{w:World}(hm:zO Keep M ρ w)(c:Array Value)(t:TypeId):Stp (Own M ρ) (Own M ρ) ρ ρ w (w.alloc (.cells c t))/\zO Keep M ρ (w.alloc (.cells c t)):=
 hm.same rfl rfl (.cells _ _ _) (by simp) (λb hb=>heap_alloc_old w _ hb)
theorem zpb(c:Int)(u:Er)(x y:SV):CG0 208 [.op (erV (.w c u)),.ifc 236 (.loc 0 0)] [(0,.box 234 [x,y])] (bl true) [(0,.box 234 [i64 c,.op (erV u)])]:=by
 refine⟨zh2,λKeep ρ w vs _ hm hρ hg=>?_⟩;obtain⟨a,r,rfl,ha,hr⟩:=hg.cons_inv;obtain⟨b,r',rfl,hb,hr'⟩:=hr.cons_inv;obtain rfl:=hr'.nil_inv;obtain rfl:=ha.op_inv.1;obtain⟨p,rfl,hp⟩:=hb.ifc_inv;obtain⟨k,hk,rfl⟩:=hp.loc_inv;obtain⟨k',cs,hρ0,hheap,hlen,hone,hcells⟩:=hm.rel 0 _ (.head _);rw[hk]at hρ0;cases hρ0
 refine(zuA k (.int .i64 c) (erV u) cs.toArray w (hm.glc glE) (by simp[hlen]) hheap rfl (zwD u)).mono ?_
 rintro e w' ⟨rfl,rfl⟩
 obtain⟨s1,m1⟩:=hm.more #[.pointer (some ⟨k,0,none⟩)] 236;obtain⟨s2,m2⟩:=m1.more #[.pointer (some ⟨3,236,none⟩),.pointer (some ⟨w.heap.size,0,none⟩),.int .u64 150] 272;obtain⟨s3,m3⟩:=m2.more #[.pointer (some ⟨3,236,none⟩),.pointer (some ⟨w.heap.size,0,none⟩),.int .u64 150] 272;obtain⟨s4,m4⟩:=m3.more #[.int .i64 c,erV u] 234;obtain⟨k2,cs2,hρ2,hheap2,hlen2,_,_⟩:=m4.rel 0 _ (.head _);rw[hk]at hρ2;cases hρ2
 obtain⟨s5,m5⟩:=m4.write (.box 234 [i64 c,.op (erV u)]) (.head _) hk rfl #[.int .i64 c,erV u] λhs=>
  ⟨k,[.int .i64 c,erV u],hk,by simpa using setRow_heap _ k _ _ 234 _ hheap2,rfl,λv hv=>by
   simp only[Kc,Kx,or_false]at hv
   rcases hv with rfl | rfl
   ·rfl
   ·exact zwD u,λj s v hs hv=>by
   match j with
   | 0=>cases hs;cases hv;exact .d _ _ (.val _)
   | 1=>cases hs;cases hv;exact .d _ _ (.op _ (er_if u))
   | j+2=>simp at hs⟩
 exact⟨_,ρ,rfl,(((s1.trans s2).trans s3).trans s4).trans s5,m5,.d _ _ (.val _)⟩
end Go.Gs
namespace Go.Gs
open Go.ChangeShapes Go.WideShapes Go.Deep Go.Joins Go.RowKit
section
variable {H:Type} {enc:TypeId×Value->H} {P:Program} {w:World} {base:Nat} {held:Bool}
end
theorem args_stay{H:Type}{enc:TypeId×Value->H}{P:Program}(hl:laidOutB P=true){W W':World}(hb:Below W.heap.size W W'){sp:Nat->Bool}:
  ∀{ts:List TypeId} {vs:List Value} {ds:List (DataW H)} {ps:List MemPlace},(ts.all λt=>P.readableRec t&&decide (t < P.types.size))=true->
   DataW.TrodAll enc P W 0 (λ_=>true) true ts vs ds ps->(∀p∈ps,p.block < W.heap.size)->(∀p∈ps,sp p.block=true)->DataW.TrodAll enc P W' 0 sp true ts vs ds ps
 | [],[],[],_,_,h,_,_=>h
 | t::ts,v::vs,d::ds,ps,hts,⟨p,q,h1,h2,e⟩,hlt,hsp=>by
  simp only[Yu,Xx,decide_eq_true_eq]at hts;have e1:∀x∈p,x∈ps:=λx hx=>by rw[e];exact Qn _ hx
  have e2:∀x∈q,x∈ps:=λx hx=>by rw[e];exact QH _ hx
  refine⟨p,q,WideElems.Trod_stays hl hts.1.1 hts.1.2 h1 (λx hx=>hb.same (hlt x (e1 x hx))) (λx hx=>hsp x (e1 x hx)),args_stay hl hb (by simpa using hts.2) h2 (λx hx=>hlt x (e2 x hx)) (λx hx=>hsp x (e2 x hx)),e⟩
end Go.Gs
namespace Go.Gs
open Go.ChangeShapes Go.WideShapes Go.Deep Go.Joins Go.RowKit
section
inductive Sh
 | int (k:IntKind)
 | bool
 | sl (e:Sh)
 | st (fs:Sh)
 | ar (es:Sh)
 | nil
 | cons (f r:Sh)
def Sh.T:Sh->Type
 | .int _=>Int
 | .bool=>Bool
 | .sl e=>List e.T
 | .st fs=>fs.T
 | .ar es=>es.T
 | .nil=>Unit
 | .cons f r=>f.T×r.T
def Sh.dflt:(s:Sh)->s.T
 | .int _=>(0:Int)
 | .bool=>false
 | .sl _=>[]
 | .st fs=>fs.dflt
 | .ar es=>es.dflt
 | .nil=>()
 | .cons f r=>(f.dflt,r.dflt)
def Sh.n:Sh->Nat
 | .int _=>1
 | .bool=>1
 | .sl _=>1
 | .st fs=>fs.n
 | .ar es=>es.n
 | .nil=>0
 | .cons f r=>f.n+r.n
def Sh.enc:(s:Sh)->s.T->List SV
 | .int k,n=>[.val (.int k n)]
 | .bool,b=>[.pr (@Eq Bool b true) (instDecidableEqBool b true)]
 | .sl e,xs=>[.sl e.enc xs]
 | .st fs,x=>fs.enc x
 | .ar es,x=>es.enc x
 | .nil,_=>[]
 | .cons f r,x=>f.enc x.1++r.enc x.2
def Sh.wf:(s:Sh)->s.T->Prop
 | .int k,n=>(Lit.int k n).wf=true
 | .bool,_=>True
 | .sl e,xs=>∀x:e.T,@Membership.mem e.T (List e.T) _ xs x->e.wf x
 | .st fs,x=>fs.wf x
 | .ar es,x=>es.wf x
 | .nil,_=>True
 | .cons f r,x=>f.wf x.1/\r.wf x.2
def Sh.fit(P:Program):Sh->(TypeId->Bool)×(List Field->Nat->Bool)×(Nat->TypeId->Bool)
 |.int k=>(λt=>match P.underlying t with
  | some (.int k')=>zq8 k k'&&Nat.beq (P.cellsOf t) 1
  | _=>false,λ_ _=>false,λ_ _=>false)
 |.bool=>(λt=>match P.underlying t with
  | some .bool=>Nat.beq (P.cellsOf t) 1
  | _=>false,λ_ _=>false,λ_ _=>false)
 |.sl e=>(λt=>match P.underlying t with
  | some (.slice u)=>(e.fit P).1 u&&Nat.beq (P.cellsOf t) 1&&Nat.blt 0 e.n
  | _=>false,λ_ _=>false,λ_ _=>false)
 |.st fs=>(λt=>match P.underlying t with
  | some (.struct gs)=>(fs.fit P).2.1 gs.toList 0&&Nat.beq (P.cellsOf t) fs.n
  | _=>false,λ_ _=>false,λ_ _=>false)
 |.ar es=>(λt=>match P.underlying t with
  | some (.array n u)=>(es.fit P).2.2 n u&&Nat.beq (P.cellsOf t) es.n
  | _=>false,λ_ _=>false,λ_ _=>false)
 |.nil=>(λ_=>false,λgs _=>match gs with
  | []=>true
  | _=>false,λn _=>match n with
  | 0=>true
  | _=>false)
 |.cons f r=>(λ_=>false,λgs off=>match gs with
  | []=>false
  | g::gs=>Nat.beq g.offset off&&(f.fit P).1 g.type&&(r.fit P).2.1 gs (off+f.n),λn u=>match n with
  | 0=>false
  | n+1=>(f.fit P).1 u&&(r.fit P).2.2 n u)
theorem Sh.enc_len:∀(s:Sh) (x:s.T),(s.enc x).length=s.n
 | .int _,_=>rfl
 | .bool,_=>rfl
 | .sl _,_=>rfl
 | .st fs,x=>Sh.enc_len fs x
 | .ar es,x=>Sh.enc_len es x
 | .nil,_=>rfl
 | .cons f r,x=>by
  show(f.enc x.1++r.enc x.2).length=f.n+r.n;rw[Xj,Sh.enc_len f,Sh.enc_len r]
def Dc(S:Nat->Prop)(w:World)(cs:List SV)(vs:List Value):Prop:=
 vs.length=cs.length/\∀(j:Nat) (s:SV) (v:Value),cs[j]? =some s->vs[j]? =some v->D S w s v/\v.oneCell'=true
variable{S:Nat->Prop}{w:World}
theorem Dc.nil:Dc S w [] []:=⟨rfl,λj s v h=>by simp at h⟩
theorem Dc.append{cs ds:List SV}{vs us:List Value}(h:Dc S w cs vs)(k:Dc S w ds us):Dc S w (cs++ds) (vs++us):=by
 refine⟨by rw[Xj,Xj,h.1,k.1],λj s v hs hv=>?_⟩
 by_cases hj:j < cs.length
 ·rw[XF hj]at hs;rw[XF (by rw[h.1];exact hj)]at hv;exact h.2 j s v hs hv
 ·rw[XA oM]at hs;rw[XA (by rw[h.1];omega),h.1]at hv;exact k.2 _ s v hs hv
theorem Dc.one{s:SV}{v:Value}(h:D S w s v)(ho:v.oneCell'=true):Dc S w [s] [v]:=⟨rfl,λj s' v' hs hv=>by
 match j with
 | 0=>simp at hs hv;subst hs;subst hv;exact⟨h,ho⟩
 | j+1=>simp at hs⟩
end
section
variable {H:Type} {enc:TypeId×Value->H} {P:Program} {W:World} {held:Bool}
theorem zkD(L:List Value)(off a b:Nat):(L.drop off).take (a+b)=(L.drop off).take a++(L.drop (off+a)).take b:=by
 rw[List.take_add,JJ]
theorem zAf:∀s:Sh,
  ((∀(t:TypeId) (fuel:Nat) (L:List Value) (x:DataW H×List MemPlace),(s.fit P).1 t=true->DataW.trod enc P W 0 (λ_=>true) held fuel t L=some x->
   P.cellsOf t=s.n/\L.length=s.n/\∃y:s.T,s.wf y/\∀S:Nat->Prop,(∀b,¬S b)->Dc S W (s.enc y) L))/\
  (∀(gs:List Field) (off m:Nat) (L:List Value),(s.fit P).2.1 gs off=true->(∀g∈gs,∃x,DataW.trod enc P W 0 (λ_=>true) held m g.type ((L.drop g.offset).take (P.cellsOf g.type))=some x)->
   ∃y:s.T,s.wf y/\∀S:Nat->Prop,(∀b,¬S b)->Dc S W (s.enc y) ((L.drop off).take s.n))/\
  (∀(n i m:Nat) (u:TypeId) (L:List Value),(s.fit P).2.2 n u=true->(∀j,j < n->∃x,DataW.trod enc P W 0 (λ_=>true) held m u ((L.drop ((i+j)*P.cellsOf u)).take (P.cellsOf u))=some x)->
   ∃y:s.T,s.wf y/\∀S:Nat->Prop,(∀b,¬S b)->Dc S W (s.enc y) ((L.drop (i*P.cellsOf u)).take s.n)):=by
 intro s
 induction s with
 | int k=>
  refine⟨λt fuel L x hf h=>?_,λ_ _ _ _ hf _=>(by cases hf),λ_ _ _ _ _ hf _=>(by cases hf)⟩;unfold Sh.fit at hf;dsimp only at hf
  split at hf
  ·rename_i k' hk;simp only[Xx]at hf;obtain⟨hk',hc⟩:=hf;have hk':=zfN hk';subst hk';obtain⟨q,rfl,_,hw⟩:=DataW.trod_int hk h;exact⟨Xg hc,rfl,q,hw,λS _=>.one (.val _) rfl⟩
  ·cases hf
 | bool=>
  refine⟨λt fuel L x hf h=>?_,λ_ _ _ _ hf _=>(by cases hf),λ_ _ _ _ _ hf _=>(by cases hf)⟩;unfold Sh.fit at hf;dsimp only at hf
  split at hf
  ·rename_i hk;obtain⟨b,rfl,_⟩:=DataW.trod_bool hk h;refine⟨Xg hf,rfl,b,trivial,λS _=>.one ?_ rfl⟩;have:=D.pr (S:=S) (w:=W) (b=true) inferInstance
   rwa [show decide (b=true)=b by cases b <;> rfl]at this
  ·cases hf
 | sl e ih=>
  refine⟨λt fuel L x hf h=>?_,λ_ _ _ _ hf _=>(by cases hf),λ_ _ _ _ _ hf _=>(by cases hf)⟩;unfold Sh.fit at hf;dsimp only at hf
  split at hf
  ·rename_i u hk;simp only[Xx]at hf;obtain⟨⟨he,hc⟩,hpos⟩:=hf;have hpos:0 < e.n:=by simpa using hpos
   refine⟨Xg hc,?_⟩
   rcases open_slice hk h with⟨rfl,_⟩ | ⟨a,len,cap,m,n,Df,Pl,rfl,_,hl,hm,hmm,_,hi⟩
   ·exact⟨rfl,([]:List e.T),λx hx=>(by cases hx),λS _=>.one (.nil _ _) rfl⟩
   have hmc:m=cap:=by simpa using hmm
   subst hmc;refine⟨rfl,?_⟩
   have key:∀i,i < m->∃cs',P.cellsOf u=e.n/\W.cells? 0 (a.add (i*e.n)) e.n=some cs'/\∃y:e.T,e.wf y/\∀S:Nat->Prop,(∀b,¬S b)->Dc S W (e.enc y) cs':=λi hi'=>by
    obtain⟨cs',h1,h2⟩:=hi i hi';obtain⟨g1,g2,g3⟩:=ih.1 u n cs' _ he h2;rw[g1]at h1;exact⟨cs',g1,h1,g3⟩
   by_cases h0:m=0
   ·subst h0;have:len=0:=oM;subst this;exact⟨([]:List e.T),λx hx=>(by cases hx),λS _=>.one (.nil _ _) rfl⟩
   have hspot:a.spot=none/\a.block < W.heap.size:=by
    obtain⟨cs',_,h1,_⟩:=key 0 oM;obtain⟨_,_,hat⟩:=World.cells?_some h1;have h2:=hat 0 hpos;have hlen:cs'.length=e.n:=by obtain⟨_,hl,_⟩:=World.cells?_some h1;exact hl
    rw[Xb oM,QS]at h2;have:(a.add 0).add 0=a:=by unfold Addr.add;simp
    rw[this]at h2;unfold World.cell? at h2
    split at h2
    ·rename_i hb
     split at h2
     ·cases h2
     ·rename_i hs;refine⟨by simpa using hs,(X1.1 hb).1⟩
    ·cases h2
   obtain⟨b,o,sp⟩:=a;obtain⟨hs,hb⟩:=hspot;have hs:sp=none:=hs;subst hs
   haveI:Inhabited e.T:=⟨e.dflt⟩
   obtain⟨F,hF⟩:=choose_lt (α:=e.T) (n:=m) (p:=λi y=>∃cs',W.cells? 0 (Addr.add ⟨b,o,none⟩ (i*e.n)) e.n=some cs'/\e.wf y/\∀S:Nat->Prop,(∀b,¬S b)->Dc S W (e.enc y) cs') (λi hi'=>by
    obtain⟨cs',_,h1,y,hy,hd⟩:=key i hi'
    exact⟨y,cs',h1,hy,hd⟩)
   refine⟨(List.range len).map F,λx hx=>?_,λS hS=>.one ?_ rfl⟩
   ·obtain⟨i,hi',rfl⟩:=XO.1 hx;obtain⟨_,_,hw,_⟩:=hF i (by have:=Kj.1 hi';omega);exact hw
   ·have at1:∀i j,i < m->j < e.n->∃v,W.cell? ⟨b,o+i*e.n+j,none⟩=some v/\v.oneCell'=true/\∀s,(e.enc (F i))[j]? =some s->D S W s v:=λi j hi' hj=>by
     obtain⟨cs',h1,_,hd⟩:=hF i hi';obtain⟨_,hlen,hat⟩:=World.cells?_some h1;have h2:=hat j hj;rw[Xb oM,add_add]at h2;have e1:Addr.add ⟨b,o,none⟩ (i*e.n+j)=⟨b,o+i*e.n+j,none⟩:=by rw[yh,← KN]
     rw[e1]at h2;have hd:=hd S hS;have hjl:j < (e.enc (F i)).length:=by rw[Sh.enc_len];exact hj
     have:=hd.2 j _ _ (Xb hjl) (Xb (show j < cs'.length by omega));refine⟨_,h2,this.2,λs hs=>?_⟩;exact(hd.2 j s _ hs (Xb (show j < cs'.length by omega))).1
    have hsl:=D.sl (S:=S) (w:=W) e.enc ((List.range len).map F) e.n b o m (λi j=>(W.cell? ⟨b,o+i*e.n+j,none⟩).getD undef) hb (hS b) (by simp;unfold maxLen at hm;omega) (by simpa using hl) (λx _=>Sh.enc_len e x) (λi j hi' hj=>by
     obtain⟨v,h1,h2,_⟩:=at1 i j (by simp at hi';omega) hj
     rw[h1];exact⟨rfl,h2⟩) (λi j x s hx hs=>by
     have hi':i < len:=by have:=(Xc.1 hx).1;simpa using this
     simp only[XC,Qt hi',K6,Qp]at hx;subst hx;have hj:j < e.n:=by have:=(Xc.1 hs).1;rw[Sh.enc_len]at this;exact this
     obtain⟨v,h1,_,h3⟩:=at1 i j oM hj
     rw[h1];exact h3 s hs)
    simpa using hsl
  ·cases hf
 | st fs ih=>
  refine⟨λt fuel L x hf h=>?_,λ_ _ _ _ hf _=>(by cases hf),λ_ _ _ _ _ hf _=>(by cases hf)⟩;unfold Sh.fit at hf;dsimp only at hf
  split at hf
  ·rename_i gs hk;simp only[Xx]at hf;obtain⟨hg,hc⟩:=hf;have hc:=Xg hc;obtain⟨xs,m,_,_,hl,hxl,hfl⟩:=DataW.trod_struct hk h
   obtain⟨y,hy,hd⟩:=ih.2.1 gs.toList 0 m L hg (λg hg'=>by
    obtain⟨i,hi,rfl⟩:=Ka hg';have hi':i < gs.size:=by simpa using hi
    have:=hfl i gs[i] (by simp[hi'])
    exact⟨xs[i]'oM,by simpa[Xb (show i < xs.length by omega)] using this⟩)
   refine⟨hc,hl.trans hc,y,hy,λS hS=>?_⟩;have:=hd S hS;rw[KT,Xf (by show L.length<=fs.n;omega)]at this;exact this
  ·cases hf
 | ar es ih=>
  refine⟨λt fuel L x hf h=>?_,λ_ _ _ _ hf _=>(by cases hf),λ_ _ _ _ _ hf _=>(by cases hf)⟩;unfold Sh.fit at hf;dsimp only at hf
  split at hf
  ·rename_i n u hk;simp only[Xx]at hf;obtain⟨hg,hc⟩:=hf;have hc:=Xg hc;obtain⟨xs,m,_,_,hl,hxl,hfl⟩:=DataW.trod_array hk h
   obtain⟨y,hy,hd⟩:=ih.2.2 n 0 m u L hg (λj hj=>by
    have:=hfl j hj
    exact⟨xs[j]'oM,by rw[X6,this,Xb (show j < xs.length by omega)]⟩)
   refine⟨hc,hl.trans hc,y,hy,λS hS=>?_⟩;have:=hd S hS;rw[QS,KT,Xf (by show L.length<=es.n;omega)]at this;exact this
  ·cases hf
 | nil=>
  refine⟨λt fuel L x hf h=>(by cases hf),λgs off m L hf _=>⟨(),trivial,λS _=>?_⟩,λn i m u L hf _=>⟨(),trivial,λS _=>?_⟩⟩
  ·show Dc S W [] ((L.drop off).take 0);rw[JL];exact .nil
  ·show Dc S W [] ((L.drop _).take 0);rw[JL];exact .nil
 | cons f r ihf ihr=>
  refine⟨λt fuel L x hf h=>(by cases hf),λgs off m L hf hx=>?_,λn i m u L hf hx=>?_⟩
  ·unfold Sh.fit at hf;dsimp only at hf
   split at hf
   ·cases hf
   ·rename_i g gs;simp only[Xx]at hf;obtain⟨⟨ho,h1⟩,h2⟩:=hf;have ho:=Xg ho;subst ho;obtain⟨x,hx0⟩:=hx g (List.mem_cons_self ..);obtain⟨g1,g2,y,hy,hd⟩:=ihf.1 g.type m _ x h1 hx0;obtain⟨z,hz,he⟩:=ihr.2.1 gs (g.offset+f.n) m L h2 (λg' hg'=>hx g' (List.mem_cons_of_mem _ hg'));refine⟨(y,z),⟨hy,hz⟩,λS hS=>?_⟩;show Dc S W (f.enc y++r.enc z) ((L.drop g.offset).take (f.n+r.n));rw[zkD];have:=hd S hS;rw[g1]at this;exact this.append (he S hS)
  ·unfold Sh.fit at hf;dsimp only at hf
   split at hf
   ·cases hf
   ·rename_i n;simp only[Xx]at hf;obtain⟨h1,h2⟩:=hf;obtain⟨x,hx0⟩:=hx 0 oM;obtain⟨g1,g2,y,hy,hd⟩:=ihf.1 u m _ x h1 hx0
    obtain⟨z,hz,he⟩:=ihr.2.2 n (i+1) m u L h2 (λj hj=>by
     have:=hx (j+1) oM
     rwa [show i+(j+1)=i+1+j by omega]at this)
    refine⟨(y,z),⟨hy,hz⟩,λS hS=>?_⟩;show Dc S W (f.enc y++r.enc z) ((L.drop (i*P.cellsOf u)).take (f.n+r.n));rw[zkD];have:=hd S hS;rw[XP,g1]at this;have he:=he S hS;rw[g1,XY,Ys]at he;rw[g1];exact this.append he
end
def LEd(s r:SV):Prop:=∀(S:Nat->Prop) (w:World) (v:Value),D S w s v->D S w r v
inductive jr:List SV->List SV->Prop
 | nil:jr [] []
 | cons {a b:SV} {us bs:List SV} (h:LEd a b) (t:jr us bs):jr (a::us) (b::bs)
theorem LEd.refl{s:SV}:LEd s s:=λ_ _ _ h=>h
theorem jr.refl:∀{us:List SV},jr us us
 | []=>.nil
 | _::_=>.cons .refl .refl
theorem jr.append{us bs cs ds:List SV}(h:jr us bs)(k:jr cs ds):jr (us++cs) (bs++ds):=by
 induction h with
 | nil=>exact k
 | cons h _ ih=>exact .cons h ih
theorem jr.ix{us bs:List SV}(h:jr us bs):us.length=bs.length/\∀(j:Nat) (s r:SV),us[j]? =some s->bs[j]? =some r->LEd s r:=by
 induction h with
 | nil=>exact⟨rfl,λj s r h=>by simp at h⟩
 | cons h t ih=>
  refine⟨by simp[ih.1],λj s r hs hr=>?_⟩
  cases j with
  | zero=>simp at hs hr;subst hs;subst hr;exact h
  | succ j=>exact ih.2 j s r (by simpa using hs) (by simpa using hr)
theorem LEd.sl{α β:Type}{e:α->List SV}{g:β->List SV}(f:α->β){xs:List α}(he:∀x∈xs,jr (e x) (g (f x))):LEd (.sl e xs) (.sl g (xs.map f)):=λS w v h=>by
 cases h with
 | nil _ a=>exact .nil g a
 | sl _ _ sz b o cap c hb hS hlen hcap hsz hc h=>
  have:=D.sl (S:=S) (w:=w) g (xs.map f) sz b o cap c hb hS (by simpa using hlen) (by simpa using hcap) (λy hy=>by
   obtain⟨x,hx,rfl⟩:=XO.1 hy
   rw[← (he x hx).ix.1];exact hsz x hx) (λi j hi hj=>hc i j (by simpa using hi) hj) (λi j y s hy hs=>by
   rw[XC]at hy
   cases hx:xs[i]? with
   | none=>simp[hx]at hy
   | some x=>
    simp[hx]at hy;subst hy;have he:=he x (Xd hx);have hj:j < (e x).length:=by rw[he.ix.1];exact(Xc.1 hs).1
    have hs0:=Xb hj
    exact he.ix.2 j _ s hs0 hs _ _ _ (h i j x _ hx hs0))
  simpa using this
theorem zyk{α β:Type}{e:α->List SV}{g:β->List SV}(f:α->β){xs:List α}(he:∀x∈xs,jr (e x) (g (f x))):LE (.sl e xs) (.sl g (xs.map f)):=λ_ _ _ _ _ hg=>.d _ _ (LEd.sl f he _ _ _ hg.sl_inv)
theorem jr.gs{us bs:List SV}(h:jr us bs){S Pm:Nat->Prop}{ρ:zk}{w:World}{vs:List Value}(hd:vs.length=us.length/\∀(j:Nat) (s:SV) (v:Value),us[j]? =some s->vs[j]? =some v->D S w s v):Gs S Pm ρ w bs vs:=
 ⟨hd.1.trans h.ix.1,λj r v hr hv=>by
  have hj:j < us.length:=by rw[h.ix.1];exact(Xc.1 hr).1
  have hs:=Xb hj
  exact .d _ _ (h.ix.2 j _ r hs hr _ _ _ (hd.2 j _ v hs hv))⟩
section
variable {H:Type} {enc:TypeId×Value->H} {P:Program} {W:World} {held:Bool}
theorem zmx {b0:Nat} {t:TypeId} {v:Value} {d:DataW H} {p:List MemPlace} (s:Sh) (hf:(s.fit P).1 t=true) (ha:(match P.underlying t with | some (.struct _)=>true | some (.array _ _)=>true | _=>false)=true)
  (hv:Value.okWide P W .any b0 t v) (h:DataW.Trod enc P W 0 (λ_=>true) held t v d p):
  ∃y:s.T,s.wf y/\∀(g:List SV),jr (s.enc y) g->∀(S Pm:Nat->Prop) (ρ:zk),(∀b,¬S b)->G S Pm ρ W (.agg g) v:=by
 obtain⟨fuel,hx⟩:=h;obtain⟨_,_,y,hy,hd⟩:=(zAf s).1 t fuel _ _ hf hx
 have:∃cs,v=.agg cs:=by
  unfold Value.okWide at hv
  split at ha
  ·rename_i h1;rw[h1]at hv;obtain⟨cs,rfl,_⟩:=hv;exact⟨cs,rfl⟩
  ·rename_i h1;rw[h1]at hv;obtain⟨cs,rfl,_⟩:=hv;exact⟨cs,rfl⟩
  ·cases ha
 obtain⟨cs,rfl⟩:=this;refine⟨y,hy,λg hg S Pm ρ hS=>?_⟩;have hd1:=hd S hS;have g1:=hg.gs (Pm:=Pm) (ρ:=ρ) ⟨hd1.1,λj s v hs hv=>(hd1.2 j s v hs hv).1⟩;have:=G.agg (S:=S) (Pm:=Pm) (ρ:=ρ) (w:=W) _ _ g1.1 g1.2
 rwa [show(Value.agg cs).cells.toList.toArray=cs from Array.toArray_toList]at this
end
open Go.Proofs
section
inductive Pw
 | d (q:Pl)
 | c (r:List Pt)
def pwE:Pw->List SV
 | .d q=>plE q
 | .c r=>[.sl ptE r,.val (.bool false)]
def pwP:Pw->Pl
 | .d q=>q
 | .c r=>⟨r,false⟩
theorem zvk{q:Prop}{j:Decidable q}(h:¬q):LEd (.val (.bool false)) (.pr q j):=λS w v hd=>by
 cases hd
 have:=D.pr (S:=S) (w:=w) q j
 simpa[h] using this
theorem LE_pw(l:List Pw):LE (.sl pwE l) (.sl plE (l.map pwP)):=zyk pwP λx _=>by
 cases x with
 | d q=>exact .refl
 | c r=>exact .cons .refl (.cons (zvk (show ¬(false=true) by decide)) .nil)
def zmy(p:Pl)(q:Nat×Nat):Pw:=if p.cl=true/\q.1=0/\(q.2:Int)=zK p then .d (zu p) else .c (vo (ze p) q.1 q.2)
theorem zAg(p:Pl)(q:Nat×Nat):pwP (zmy p q)=ye p q:=by
 unfold zmy ye
 split <;> rfl
theorem zvl(p:Pl)(l:List (Nat×Nat)):(l.map (zmy p)).map pwP=l.map (ye p):=by
 rw[List.map_map];exact Qv λq _=>zAg p q
variable{pen:Pen}
theorem zih{long:Int}:∀q∈kU pen long,q.1 < q.2/\(q.2:Int)<=long/\1<=long:=by
 intro q hq;unfold kU at hq
 split at hq
 ·cases hq
 ·rename_i h;have h1:¬long < 1:=λk=>h (.inr (.inl k))
  split at hq
  ·have:=Xq.1 hq;subst this;dsimp only;omega
  ·have:=zkh q hq;omega
theorem zfA(p:Pl)(hp:p.pts.length<=4096):0<=zK p/\zK p<=17596481011712:=by
 have h:=vY (ze p) ((ze p).length - 1);have h1:=jM (zu p);have h2:=jx p;rw[← yP]at h1;unfold zK;omega
variable{p:Pl}
theorem zqu(h:1<=zK p):2<=(ze p).length:=by
 refine QR λk=>?_
 have:=zpW (p:=p) oM;omega
theorem zeF{q:Nat×Nat}(hp:p.pts.length<=4096)(h:q∈kU pen (zK p)):0 < (ye p q).pts.length/\(ye p q).pts.length<=4100:=by
 obtain⟨_,_,h1⟩:=zih q h;have h2:=zqu h1;have ll:=jM (zu p);have dl:=jx p;rw[← yP]at ll;unfold ye
 split
 ·rename_i k
  have:(zu p).pts.length≠0:=λe=>by
   have:=zbC (q:=zu p) oM;rw[← yP]at this;omega
  omega
 ·have:=zoa (ze p) q.1 q.2;dsimp only;omega
theorem zgE(a b:List Pl):jt (a++b)=jt a+jt b:=by unfold jt;simp
theorem zeG:∀{l:List Pl},(∀x∈l,0 < x.pts.length)->l.length<=jt l
 | [],_=>Xe _
 | x::r,h=>by
  have h1:=h x (.head _);have h2:=zeG (l:=r) λy hy=>h y (.tail _ hy)
  have e:jt (x::r)=x.pts.length+jt r:=by unfold jt;simp
  rw[e,Xl];omega
def zfB(p:Pl)(pen:Pen)(j:Nat):Nat:=jt (((kU pen (zK p)).take j).map (ye p))
theorem zvm{j:Nat}{y:Nat×Nat}(h:(kU pen (zK p))[j]? =some y):zfB p pen (j+1)=zfB p pen j+(ye p y).pts.length:=by
 unfold zfB;rw[Xm,h,XG,zgE];show _+jt [ye p y]=_;unfold jt;simp
theorem zAh(p:Pl)(pen:Pen)(j:Nat):zfB p pen j<=jt ((kU pen (zK p)).map (ye p)):=by
 have e:(kU pen (zK p)).map (ye p)=((kU pen (zK p)).take j).map (ye p)++((kU pen (zK p)).drop j).map (ye p):=by
  rw[← XG,Ki]
 rw[e,zgE];exact Jp _ _
theorem zAi{p:Pl}{pen:Pen}(hp:p.pts.length<=4096)(j:Nat):((kU pen (zK p)).take j).length<=zfB p pen j:=by
 have:=zeG (l:=((kU pen (zK p)).take j).map (ye p)) λx hx=>by
  obtain⟨q,hq,rfl⟩:=XO.1 hx;exact(zeF hp (XE hq)).1
 rwa [Xz]at this
def dM(p:Pl)(pen:Pen)(j:Nat):List (Nat×Mem):=
 [(0,.box 118 [.sl ptE p.pts,pr (p.cl=true)]),(1,.box 111 [.val (.slice none 0 0)]),(2,.box 61 [i64 0]),(3,.box 205 (meE (meQ (zu p)))),
  (4,.box 111 [.own 6]),(5,.box 3 [i64 (zfB p pen j:Int)]),(6,.arr 118 pwE 2 (((kU pen (zK p)).take j).map (zmy p)))]
def dB(p:Pl):List (Nat×Mem):=
 [(0,.box 118 [.sl ptE p.pts,pr (p.cl=true)]),(1,.box 111 [.val (.slice none 0 0)]),(2,.box 61 [i64 0]),(3,.box 205 (meE (meQ (zu p)))),
  (4,.box 111 [.sl ptE (List.replicate 9223372036854775808 zp)]),(5,.box 3 [i64 4097])]
def dS(p:Pl)(pen:Pen)(j:Nat):List (Nat×Mem):=if zfB p pen j<=4096 then dM p pen j else dB p
theorem zAj{S Pm:Nat->Prop}{ρ:zk}{w:World}{v:Value}:¬G S Pm ρ w (.sl ptE (List.replicate 9223372036854775808 zp)) v:=λhg=>by
 have key:∀{xs:List Pt} {u:Value},D S w (.sl ptE xs) u->xs.length<=9223372036854775807:=λhd=>by
  cases hd with
  | nil=>decide
  | sl _ _ sz b o cap c hb hS hlen=>exact hlen
 have:=key hg.sl_inv;rw[Kh]at this;omega
theorem zAk{a s:SV}:LE (.tup [.sl ptE (List.replicate 9223372036854775808 zp),a]) s:=λS Pm ρ w v hg=>by
 cases hg with
 | d _ _ hd=>cases hd
 | tup cs vs hl h=>
  obtain⟨u,hu⟩:∃u,vs[0]? =some u:=⟨_,Xb (by rw[hl];exact Nat.succ_pos 1)⟩;exact absurd (h 0 _ u rfl hu) zAj
theorem dS_pf(p:Pl)(pen:Pen)(j:Nat):zkr (dS p pen j):=by
 unfold dS
 split
 ·intro k m hm;unfold dM at hm;simp only[Kc,Kx,or_false,K9]at hm
  rcases hm with⟨_,rfl⟩ | ⟨_,rfl⟩ | ⟨_,rfl⟩ | ⟨_,rfl⟩ | ⟨_,rfl⟩ | ⟨_,rfl⟩ | ⟨_,rfl⟩
  all_goals first | rfl | trivial
 ·intro k m hm;unfold dB at hm;simp only[Kc,Kx,or_false,K9]at hm
  rcases hm with⟨_,rfl⟩ | ⟨_,rfl⟩ | ⟨_,rfl⟩ | ⟨_,rfl⟩ | ⟨_,rfl⟩ | ⟨_,rfl⟩
  all_goals first | rfl | trivial
theorem zyl(p:Pl)(pen:Pen)(hp:p.pts.length<=4096):CG0 121 [.agg (plE p),.agg (jo pen)] [] (zn0 (jB p pen)) []:=by
 refine zdS 3 tok mix Tryz.func121 rfl rfl rfl ?_
 have es:jB p pen=if ¬kI pen then([],13) else if ¬∀q∈p.pts,zn q then([],6) else if 4096 < p.pts.length then([],5)
  else if pen.d=[] then([zu p],0) else if 4096 < jt ((kU pen (zK p)).map (ye p)) then([],5) else((kU pen (zK p)).map (ye p),0):=rfl
 refine zb.t (zeu pen)<|⟨λk=>?_,λk=>?_⟩
 ·have k:¬kI pen:=k;exact jw (by rw[es,if_pos k])
 have k:kI pen:=Xa.1 k;rw[kQ k]at es
 by_cases ok:∀q∈p.pts,zn q
 rotate_left
 ·refine zb.t (zmu p hp)<|⟨λ_=>?_,λh=>absurd (Xa.1 h) ok⟩;exact jw (by rw[es,if_pos ok])
 rw[kQ ok,if_neg (show ¬4096 < p.pts.length by omega)]at es;have hM:=zmu p hp;rw[zAe ok]at hM;refine zb.t hM<|Br.mk (λh=>absurd ok h) (λ_=>?_);intro hl1;refine⟨λh=>absurd (show(4096:Int) < p.pts.length from h) oM,λ_=>?_⟩;intro hl2;refine⟨λz=>?_,λz=>?_⟩
 ·have z:(pen.d.length:Int)=0:=z;have z:pen.d=[]:=Xn oM;refine zb.t (zgy p hp)<|⟨Pl,plE,[zu p],rfl,Ob.o0 ?_⟩;rw[es,if_pos z];exact .refl
 have z:¬(pen.d.length:Int)=0:=z;rw[if_neg (λh=>z (by rw[h];rfl))]at es;have lr:=zfA p hp;refine zb.t (p_on pen (zK p))<|⟨Nat×Nat,runE,kU pen (zK p),6,[(2,.loc 0 0),(4,.loc 1 0),(5,.loc 2 0),(6,.loc 3 0),(8,.loc 4 0),(9,.loc 5 0)],dS p pen,λ_=>7,zAd pen (zK p) oM,λ_=>rfl,⟨rfl,rfl,rfl,rfl⟩,?_,⟨Xe _,rfl⟩,dS_pf p pen,?_,?_⟩
 ·rw[show dS p pen 0=dM p pen 0 from if_pos (Xe _)];exact zE [(0,some 0),(1,some 2),(2,some 3),(3,some 4),(4,some 5),(5,some 6),(6,none)]
 ·intro j y hy;have hm:=Xd hy;obtain⟨y1,y2,y3⟩:=zih y hm;have cs:=zvm hy;have cle:=zAh p pen (j+1);have dp:=zeF hp hm;have bad:4096 < zfB p pen (j+1)->jB p pen=([],5):=λh=>by rw[es,if_pos oM]
  have dl:=jx p;have ll:=jM (zu p);rw[← yP]at ll;have l2:=zqu y3;have w1:p.cl=true->(y.1:Int)=0->(y.2:Int)=zK p->zmy p y=.d (zu p)/\(ye p y).pts=(zu p).pts:=λa b c=>⟨if_pos ⟨a,oM,c⟩,congrArg Pl.pts (if_pos ⟨a,oM,c⟩)⟩
  have w2:¬(p.cl=true/\(y.1:Int)=0/\(y.2:Int)=zK p)->zmy p y=.c (vo (ze p) y.1 y.2)/\(ye p y).pts=vo (ze p) y.1 y.2:=λh=>
   ⟨if_neg λk=>h ⟨k.1,oM,k.2.2⟩,congrArg Pl.pts (if_neg λk=>h ⟨k.1,oM,k.2.2⟩)⟩
  by_cases hc:zfB p pen j<=4096
  ·rw[show dS p pen j=dM p pen j from if_pos hc];have cg:=zAi (pen:=pen) hp j;refine⟨λc=>Br.mk (λc1=>Br.mk (λc2=>?_) (λc2=>?_)) (λc1=>?_),λc=>?_⟩
   ·obtain⟨e1,e2⟩:=w1 c c1 c2;rw[e2]at cs dp;refine zb.t (zgy p hp) ?_;intro hl3;refine Ar.o<|Br.mk (λo=>?_) (λo=>?_)
    ·have o:(4096:Int) < (zfB p pen j:Int)+((zu p).pts.length:Int):=o;refine⟨[(1,.box 111 [.val (.slice none 0 0)]),(2,.box 61 [i64 5])],6,zf [0,1,2,3,4,5],λk m hm=>?_,jw (bad oM)⟩;simp only[Kc,Kx,or_false,K9]at hm
     rcases hm with⟨_,rfl⟩ | ⟨_,rfl⟩ <;> rfl
    ·have o:¬(4096:Int) < (zfB p pen j:Int)+((zu p).pts.length:Int):=o;refine⟨Pw,pwE,[.d (zu p)],rfl,Ob.o10 ?_⟩;refine⟨[.d (zu p)],rfl,Ob.o25 ?_⟩;rw[show dS p pen (j+1)=dM p pen (j+1) from if_pos oM];refine zC [0,1,2,3,4,5,9] ⟨rfl,rfl,rfl,rfl,rfl,congrArg (λn=>some (Mem.box 3 [i64 n])) oM,congrArg (λq=>some (Mem.arr 118 pwE 2 q)) ?_,trivial⟩;rw[Xm,hy,XG,← e1];rfl
   all_goals
    have hno:¬(p.cl=true/\(y.1:Int)=0/\(y.2:Int)=zK p):=by
     first
     | exact λh=>c2 h.2.2
     | exact λh=>c1 h.2.1
     | exact λh=>c h.1
    obtain⟨e1,e2⟩:=w2 hno;rw[e2]at cs dp;have hcut:CG0 188 [.agg (meE (meQ (zu p))),i64 (y.1:Int),i64 (y.2:Int)] [] (.sl ptE (vo (ze p) y.1 y.2)) []:=zBn (zu p) y.1 y.2 oM l2 ⟨oM,oM⟩ ⟨oM,oM⟩;refine zb.t hcut ?_;intro hl3;refine Ar.o<|Br.mk (λo=>?_) (λo=>?_)
    ·have o:(4096:Int) < (zfB p pen j:Int)+((vo (ze p) y.1 y.2).length:Int):=o;refine⟨[(1,.box 111 [.val (.slice none 0 0)]),(2,.box 61 [i64 5])],6,zf [0,1,2,3,4,5],λk m hm=>?_,jw (bad oM)⟩;simp only[Kc,Kx,or_false,K9]at hm
     rcases hm with⟨_,rfl⟩ | ⟨_,rfl⟩ <;> rfl
    ·have o:¬(4096:Int) < (zfB p pen j:Int)+((vo (ze p) y.1 y.2).length:Int):=o;refine⟨Pw,pwE,[.c (vo (ze p) y.1 y.2)],rfl,Ob.o10 ?_⟩;refine⟨[.c (vo (ze p) y.1 y.2)],rfl,Ob.o25 ?_⟩;rw[show dS p pen (j+1)=dM p pen (j+1) from if_pos oM];refine zC [0,1,2,3,4,5,9] ⟨rfl,rfl,rfl,rfl,rfl,congrArg (λn=>some (Mem.box 3 [i64 n])) oM,congrArg (λq=>some (Mem.arr 118 pwE 2 q)) ?_,trivial⟩;rw[Xm,hy,XG,← e1];rfl
  ·rw[show dS p pen j=dB p from if_neg hc];refine⟨λc=>Br.mk (λc1=>Br.mk (λc2=>?_) (λc2=>?_)) (λc1=>?_),λc=>?_⟩
   ·obtain⟨e1,e2⟩:=w1 c c1 c2;rw[e2]at cs dp;refine zb.t (zgy p hp) ?_;intro hl3;refine Ar.o<|Br.mk (λo=>?_) (λo=>absurd (show(4096:Int) < 4097+((zu p).pts.length:Int) by omega) o);refine⟨[(1,.box 111 [.val (.slice none 0 0)]),(2,.box 61 [i64 5])],6,zf [0,1,2,3,4,5],λk m hm=>?_,jw (bad oM)⟩;simp only[Kc,Kx,or_false,K9]at hm
    rcases hm with⟨_,rfl⟩ | ⟨_,rfl⟩ <;> rfl
   all_goals
    have hno:¬(p.cl=true/\(y.1:Int)=0/\(y.2:Int)=zK p):=by
     first
     | exact λh=>c2 h.2.2
     | exact λh=>c1 h.2.1
     | exact λh=>c h.1
    obtain⟨e1,e2⟩:=w2 hno;rw[e2]at cs dp;have hcut:CG0 188 [.agg (meE (meQ (zu p))),i64 (y.1:Int),i64 (y.2:Int)] [] (.sl ptE (vo (ze p) y.1 y.2)) []:=zBn (zu p) y.1 y.2 oM l2 ⟨oM,oM⟩ ⟨oM,oM⟩;refine zb.t hcut ?_;intro hl3;refine Ar.o<|Br.mk (λo=>?_) (λo=>absurd (show(4096:Int) < 4097+((vo (ze p) y.1 y.2).length:Int) by omega) o);refine⟨[(1,.box 111 [.val (.slice none 0 0)]),(2,.box 61 [i64 5])],6,zf [0,1,2,3,4,5],λk m hm=>?_,jw (bad oM)⟩;simp only[Kc,Kx,or_false,K9]at hm
    rcases hm with⟨_,rfl⟩ | ⟨_,rfl⟩ <;> rfl
 ·by_cases hc:zfB p pen (kU pen (zK p)).length<=4096
  ·rw[show dS p pen (kU pen (zK p)).length=dM p pen (kU pen (zK p)).length from if_pos hc];have et:(kU pen (zK p)).take (kU pen (zK p)).length=kU pen (zK p):=X9;unfold zfB at hc;rw[et]at hc;rw[es,if_neg oM];refine zI ((LE_pw _).trans (z9 ?_)) .refl;rw[zvl,et]
  ·rw[show dS p pen (kU pen (zK p)).length=dB p from if_neg hc];exact zAk
theorem ztG(l:List Pt):CG0 128 [.sl ptE l] [] (pr (∀p∈l,zn p)) []:=by
 refine zc Tryz.func128 ?_;refine⟨Nat,λi=>⟨[(0,.sl ptE l),(3,i64 (i:Int))],[],0,16,0⟩,λi=>i<=l.length/\∀p∈l.take i,zn p,λi=>l.length - i,0,?_,?_,?_⟩
 ·exact⟨Xe _,λp hp=>by cases hp⟩
 ·exact zE []
 rintro i ⟨h1,h2⟩
 intro hl1;refine⟨λg=>?_,λg=>?_⟩
 ·have g:(i:Int) < l.length:=g;refine Ob.o ?_;intro x hx;have hx:l[i]? =some x:=hx;refine zb.t (kK x)<|⟨λb=>zd λk=>b (k x (Xd hx)),λb=>?_⟩;have b:=Xa.1 b;refine Ar.o<|⟨i+1,⟨oM,λp hp=>?_⟩,zE [],by dsimp only;omega⟩;rw[Xm,hx]at hp
  rcases Xo.1 hp with hp | hp
  ·exact h2 p hp
  ·simp at hp;rw[hp];exact b
 ·have g:¬(i:Int) < l.length:=g;rw[Xf oM]at h2;exact zR h2
theorem ztH(a b:Pt):CG0 193 [.agg (ptE a),.agg (ptE b)] [] (i64 (zP a b)) []:=by
 refine zc Tryz.func193 ?_;exact zb.t (ztb b a)<|zb.t (zxj (zcE b a))<|.refl
theorem zym(p:Pl)(hp:p.pts.length<=4096):CG0 192 [.agg (plE p)] [] (.sl ptE (ze p)) []:=by
 refine zc Tryz.func192 ?_;have dl:=jx p;refine zb.t (ziQ p hp)<|⟨Pt,ptE,[],rfl,Ob.o2 ?_⟩;refine⟨Nat,λi=>⟨[(3,.loc 0 0),(4,.own 1),(5,i64 (i:Int))],[(0,.box 118 (plE (zu p))),(1,.arr 35 ptE 2 ((zu p).pts.take i))],2,40,0⟩,λi=>i<=(zu p).pts.length,λi=>(zu p).pts.length - i,0,?_,?_,?_⟩
 ·exact Xe _
 ·exact zf [1,2]
 rintro i hi
 intro hl1;refine⟨λg=>?_,λg=>?_⟩
 ·have g:(i:Int) < (zu p).pts.length:=g;refine Ob.o ?_;intro x hx;have hx:(zu p).pts[i]? =some x:=hx;refine⟨Pt,ptE,[x],rfl,Ob.o0 ?_⟩;refine⟨[x],rfl,Ob.o16 ?_⟩;exact Ar.o<|⟨i+1,oM,zC [0,3] ⟨rfl,congrArg (λq=>some (Mem.arr 35 ptE 2 q)) (by rw[Xm,hx];rfl),trivial⟩,by dsimp only;omega⟩
 have g:¬(i:Int) < (zu p).pts.length:=g;have et:(zu p).pts.take i=(zu p).pts:=Xf oM;have no:¬((zu p).cl=true/\2<=(zu p).pts.length)->LE (.sl ptE ((zu p).pts.take i)) (.sl ptE (ze p)):=λh=>z9 (by rw[et,yP,zn6 h])
 refine⟨λc=>?_,λc=>no λh=>c h.1⟩;have c:(zu p).cl=true:=c;intro hl2;refine⟨λn2=>?_,λn2=>no λh=>n2 (show(2:Int)<=(zu p).pts.length by have:=h.2;omega)⟩;have n2:(2:Int)<=(zu p).pts.length:=n2;refine Ob.o ?_;intro x hx;have hx:=qy (show(zu p).pts[0]? =some x from hx);refine⟨Pt,ptE,[x],rfl,Ob.o0 ?_⟩;refine⟨[x],rfl,Ob.o16 ?_⟩;exact z9 (by rw[et,yP,zgC c oM,hx])
theorem zqv(p:Pl)(hp:p.pts.length<=4096)(ok:∀q∈p.pts,zn q):CG0 129 [.agg (plE p)] [] (i64 (zK p)) []:=by
 refine zc Tryz.func129 ?_;have dl:=jx p;have ll:=jM (zu p);rw[← yP]at ll;refine zb.t (zym p hp)<|⟨Nat,λi=>⟨[(1,.loc 0 0),(3,i64 (atS (ze p) i)),(4,.sl ptE (ze p)),(5,i64 ((i:Int)+1))],[(0,.box 118 [.sl ptE p.pts,pr (p.cl=true)])],1,32,0⟩,λi=>i<=(ze p).length - 1,λi=>(ze p).length - i,0,?_,?_,?_⟩
 ·exact Xe _
 ·exact zf [0]
 rintro i hi
 have ar:=vY (ze p) i;intro hl1;refine⟨λg=>?_,λg=>?_⟩;rotate_left
 ·have g:¬(i:Int)+1 < (ze p).length:=g;exact zj (by unfold zK;rw[show i=(ze p).length - 1 by omega])
 have g:(i:Int)+1 < (ze p).length:=g;refine zb.t (ztG p.pts)<|⟨λ_=>?_,λh=>absurd ok h⟩;refine Dr.k<|Ar.o<|Ob.o ?_;intro x hx
 have hx:=qy (show(ze p)[i]? =some x by
  have hx:(ze p)[((i:Int)+1 - 1).toNat]? =some x:=hx
  rwa [show((i:Int)+1 - 1).toNat=i by omega]at hx)
 refine Ob.o ?_;intro y hy;have hy:=qy (show(ze p)[i+1]? =some y from hy);refine zb.t (ztH x y) ?_;have pc:=yF x y;(iterate 2 refine Ar.o ?_);exact⟨i+1,oM,zL [0] ⟨rfl,congrArg (λq=>some (i64 q)) (by rw[hx,hy];rfl),rfl,congrArg (λq=>some (i64 q)) oM,trivial⟩ ⟨rfl,trivial⟩,by dsimp only;omega⟩
theorem zBo(d:List Int)(hd:uI d):CG0 194 [.sl uS d] [] (.tup [i64 (qL d),i64 (drawn d)]) []:=by
 refine zc Tryz.func194 ?_;obtain⟨d1,d2,d3,d4⟩:=yo hd;refine⟨Nat,λi=>⟨[(0,.sl uS d),(4,i64 (qG d i)),(5,i64 (256*ve 0 d i)),(6,i64 (i:Int))],[],0,32,0⟩,λi=>i<=d.length,λi=>d.length - i,0,?_,?_,?_⟩
 ·exact Xe _
 ·exact zE []
 rintro i hi
 have hpi:=zdZ d1 hi;have hps:=zbD d i hi;have q0:=yn (r:=0) d1 i hi;have q1:=yn (r:=1) d1 i hi;intro hl1;refine⟨λg=>?_,λg=>?_⟩
 ·have g:(i:Int) < d.length:=g;refine Ob.o ?_;intro x hx;have hx:d[i]? =some x:=hx;have hx1:=d1 x (Xd hx);have hx2:=d2 x (Xd hx);(iterate 2 refine Ar.o ?_);refine Dv.pos ⟨oM,dC⟩<|⟨λev=>?_,λev=>?_⟩
  ·have ev:(i:Int) % 2=0:=ev;refine Ob.o ?_;intro x' hx';have ex:x'=x:=Xi ((show d[i]? =some x' from hx').symm.trans hx);rw[ex];(iterate 3 refine Ar.o ?_);exact⟨i+1,oM,jL [] ⟨rfl,congrArg (λq=>some (i64 q)) (yB hx).symm,congrArg (λq=>some (i64 q)) (by rw[zeD hx oM];omega),rfl,trivial⟩ trivial,by dsimp only;omega⟩
  ·have ev:¬(i:Int) % 2=0:=ev;exact Ar.o<|⟨i+1,oM,jL [] ⟨rfl,congrArg (λq=>some (i64 q)) (yB hx).symm,congrArg (λq=>some (i64 q)) (by rw[zhG oM]),rfl,trivial⟩ trivial,by dsimp only;omega⟩
 ·have g:¬(i:Int) < d.length:=g;have ei:i=d.length:=oM;exact zI (zj (by rw[ei,yO])) (zj (by rw[ei];rfl))
theorem zCL(pen:Pen)(t:Nat)(hk:kI pen)(hper:0 < qL pen.d)(ht:(t:Int)<=70368744177664):CG0 195 [.agg (jo pen),i64 (t:Int)] [] (.tup [i64 ((qW pen.d (phD pen t) 0).1:Int),i64 (qW pen.d (phD pen t) 0).2]) []:=by
 refine zc Tryz.func195 ?_;obtain⟨d1,d2,d3,d4⟩:=yo hk.2.2.2.2.1;have hph:=hk.2.2.2.2.2;refine zb.t (zBo pen.d hk.2.2.2.2.1) ?_;have m1:=Kv (256*pen.ph) (show qL pen.d≠0 by omega);have m2:=X8 (256*pen.ph) hper;have m3:=Kv (t:Int) (show qL pen.d≠0 by omega);have m6:=X8 (t:Int) hper;have m4:=Kv ((t:Int) % qL pen.d+256*pen.ph % qL pen.d) (show qL pen.d≠0 by omega);have m5:=X8 ((t:Int) % qL pen.d+256*pen.ph % qL pen.d) hper;refine Dr.k ?_
 refine Dv.pos ⟨oM,oM⟩<|Ar.o<|Dv.pos ⟨oM,oM⟩<|Ar.o<|Dv.pos ⟨oM,oM⟩ ?_;have ek:phD pen t=((t:Int) % qL pen.d+256*pen.ph % qL pen.d) % qL pen.d:=rfl;rw[← ek]at m4 m5;refine⟨Nat,λi=>⟨[(2,.loc 0 0),(8,i64 (phD pen t - qG pen.d i)),(9,i64 (i:Int))],[(0,.box 50 (jo pen))],1,59,0⟩,λi=>i<=pen.d.length/\qG pen.d i<=phD pen t,λi=>pen.d.length - i,0,?_,?_,?_⟩
 ·exact⟨Xe _,by rw[ux];exact m4⟩
 ·exact zL [0] ⟨rfl,congrArg (λq=>some (i64 q)) (by rw[ux,Int.sub_zero];exact ek.symm),rfl,trivial⟩ ⟨rfl,trivial⟩
 rintro i ⟨hi,hle⟩
 have hpi:=zdZ d1 hi;intro hl1;refine⟨λg=>?_,λg=>?_⟩
 ·have g:(i:Int) < pen.d.length:=g;refine Ob.o ?_;intro x hx;have hx:pen.d[i]? =some x:=hx;have same:∀y,pen.d[(i:Int).toNat]? =some y->y=x:=λy h=>Xi ((show pen.d[i]? =some y from h).symm.trans hx)
  have hx1:=d1 x (Xd hx);have hx2:=d2 x (Xd hx);have hs:=yB hx;refine Ar.o<|Br.mk (λc=>?_) (λc=>?_)
  ·have c:phD pen t - qG pen.d i < 256*x:=c;have hp:=zey (i0:=0) d1 hx hle oM;refine Dr.k<|Ob.o ?_;intro x' hx';rw[same x' hx'];(iterate 2 refine Ar.o ?_);refine zI (zj ?_) (zj ?_)
   ·rw[hp];show(i:Int)=((0+i:Nat):Int);omega
   ·rw[hp];dsimp only;omega
  ·have c:¬phD pen t - qG pen.d i < 256*x:=c;refine Ob.o ?_;intro x' hx';rw[same x' hx'];(iterate 3 refine Ar.o ?_);exact⟨i+1,⟨oM,oM⟩,zL [0] ⟨rfl,congrArg (λq=>some (i64 q)) (by rw[hs];omega),rfl,trivial⟩ ⟨rfl,trivial⟩,by dsimp only;omega⟩
 ·have g:¬(i:Int) < pen.d.length:=g;have:qG pen.d i=qL pen.d:=by rw[show i=pen.d.length by omega,yO]
  omega
def zd1(pen:Pen)(a:Nat):Int:=(qW pen.d (phD pen a) 0).2
def zbi(pen:Pen)(long:Nat):Nat->Nat->Nat
 | 0,a=>a
 | k+1,a=>if a < long/\(kg (onD pen) a).length<=4096 then zbi pen long k (a+(min (zd1 pen a) ((long:Int) - a)).toNat) else a
def qS(pen:Pen)(long:Int):List (Nat×Nat):=
 if ¬kI pen∨long < 1∨(0 < qL pen.d/\drawn pen.d=0) then[]
 else if qL pen.d=drawn pen.d then[(0,long.toNat)] else kg (onD pen) (zbi pen long.toNat long.toNat 0)
variable{a:Nat}
theorem zvn{long k:Nat}(h:¬(a < long/\(kg (onD pen) a).length<=4096)):zbi pen long k a=a:=by
 cases k with
 | zero=>rfl
 | succ k=>unfold zbi;rw[if_neg h]
theorem zkE{pen:Pen}{a:Nat}(hd:uI pen.d)(hper:0 < qL pen.d):∃e,pen.d[(qW pen.d (phD pen a) 0).1]? =some e/\1<=zd1 pen a/\zd1 pen a<=256*e/\
  qL pen.d ∣ qG pen.d ((qW pen.d (phD pen a) 0).1+1) - zd1 pen a - ((a:Int)+256*pen.ph):=by
 obtain⟨d1,d2,d3,d4⟩:=yo hd;have k0:=Kv ((a:Int)+256*pen.ph) (show qL pen.d≠0 by omega);have k1:=X8 ((a:Int)+256*pen.ph) hper;rw[← zqp pen a]at k0 k1;obtain⟨i,e,g1,g2,g3⟩:=znO d1 k0 k1;have gp:=zey (i0:=0) d1 g1 g2 g3;have gs:=yB g1;unfold zd1;rw[gp,X6];refine⟨e,g1,by dsimp only;omega,by dsimp only;omega,?_⟩;dsimp only;rw[show qG pen.d (i+1) - (qG pen.d i+256*e - phD pen a) - ((a:Int)+256*pen.ph)=phD pen a - ((a:Int)+256*pen.ph) by omega,zqp]
 have:=Yf ((a:Int)+256*pen.ph) (qL pen.d);exact⟨-(((a:Int)+256*pen.ph) / qL pen.d),by rw[QJ];omega⟩
theorem zvo{pen:Pen}{a b:Nat}(hd:uI pen.d)(hper:0 < qL pen.d)(hab:a < b)(hb:(b:Int)<=a+zd1 pen a):
  ((qW pen.d (phD pen a) 0).1 % 2=0->z8 (onD pen) b=((z8 (onD pen) a).1,some ((z8 (onD pen) a).2.getD a)))/\(¬(qW pen.d (phD pen a) 0).1 % 2=0->z8 (onD pen) b=(kg (onD pen) a,none)):=by
 obtain⟨d1,d2,d3,d4⟩:=yo hd;obtain⟨e,h1,h2,h3,h4⟩:=zkE (a:=a) hd hper;have on:∀t,a<=t->t < b->(onD pen t↔(qW pen.d (phD pen a) 0).1 % 2=0):=λt ht ht2=>zBm d1 h1 h3 h4 ht oM
 exact⟨λk=>zxB hab λt a b=>(on t a b).2 k,λk=>ztp hab λt a b c=>k ((on t a b).1 c)⟩
variable{on:Nat->Prop}{b:Nat}
theorem zlp[DecidablePred on](h:a<=b):(kg on a).length<=(kg on b).length:=by
 obtain⟨k,rfl⟩:∃k,b=a+k:=⟨b - a,oM⟩;clear h
 induction k with
 | zero=>exact Xh _
 | succ k ih=>
  refine XB ih ?_;show(kg on (a+k)).length<=(kg on (a+k+1)).length;unfold kg;rw[vl]
  split
  ·cases (z8 on (a+k)).2 <;> simp
  ·cases (z8 on (a+k)).2 <;> simp
theorem ztI{pen:Pen}{long:Nat}:∀(k a:Nat),a<=long->zbi pen long k a<=long
 | 0,a,h=>h
 | k+1,a,h=>by
  unfold zbi
  split
  ·exact ztI k _ oM
  ·exact h
theorem zqw{pen:Pen}{long:Nat}(hd:uI pen.d)(hper:0 < qL pen.d):∀(k a:Nat),a<=long->long - a<=k->zbi pen long k a=long∨4096 < (kg (onD pen) (zbi pen long k a)).length
 | 0,a,h,hk=>.inl (by show a=long;omega)
 | k+1,a,h,hk=>by
  obtain⟨e,h1,h2,h3,h4⟩:=zkE (a:=a) hd hper;unfold zbi
  split
  ·rename_i c;exact zqw hd hper k _ oM oM
  ·rename_i c
   by_cases c2:a < long
   ·exact .inr (by have:¬(kg (onD pen) a).length<=4096:=λk=>c ⟨c2,k⟩;omega)
   ·exact .inl oM
theorem zqx(pen:Pen)(long:Int):(qS pen long=kU pen long∨(4096 < (qS pen long).length/\4096 < (kU pen long).length))/\∀q∈qS pen long,q.1 < q.2/\(q.2:Int)<=long/\1<=long:=by
 unfold qS kU
 split
 ·exact⟨.inl rfl,λq hq=>by cases hq⟩
 ·rename_i h;have hk:kI pen:=Xa.1 λk=>h (.inl k)
  have hl:¬long < 1:=λk=>h (.inr (.inl k))
  split
  ·refine⟨.inl rfl,λq hq=>?_⟩;have:=Xq.1 hq;subst this;dsimp only;omega
  ·rename_i hne;have hd:=hk.2.2.2.2.1;obtain⟨d1,d2,d3,d4⟩:=yo hd;have hps:=zbD pen.d pen.d.length (Xh _);rw[yO]at hps;have q0:=yn (r:=0) d1 pen.d.length (Xh _);have q1:=yn (r:=1) d1 pen.d.length (Xh _);have hdr:=zd0 pen.d;have hper:0 < qL pen.d:=oM;have hs:=ztI (pen:=pen) (long:=long.toNat) long.toNat 0 (Xe _);refine⟨?_,λq hq=>?_⟩
   ·rcases zqw (long:=long.toNat) hd hper long.toNat 0 (Xe _) oM with h | h
    ·rw[h];exact .inl rfl
    ·exact .inr ⟨h,Xr h (zlp hs)⟩
   ·have:=zkh q hq;omega
theorem zmz[DecidablePred on]{z:Nat×Nat}(h:(kg on a)[(kg on a).length - 1]? =some z):(z.2=a↔∃f,(z8 on a).2=some f)/\∀f,(z8 on a).2=some f->z=(f,a):=by
 unfold kg at h
 cases ho:(z8 on a).2 with
 | some f=>
  rw[ho]at h;have h:((z8 on a).1++[(f,a)])[((z8 on a).1++[(f,a)]).length - 1]? =some z:=h;rw[Xj,show(z8 on a).1.length+[(f,a)].length - 1=(z8 on a).1.length from rfl,Qd]at h
  cases h
  exact⟨⟨λ_=>⟨f,rfl⟩,λ_=>rfl⟩,λg hg=>by cases hg;rfl⟩
 | none=>
  rw[ho]at h;have h:((z8 on a).1++[])[((z8 on a).1++[]).length - 1]? =some z:=h;rw[Xy]at h;have:=((zca (on:=on) a).1 z (Xd h)).2;exact⟨⟨λk=>by omega,λ⟨f,k⟩=>by cases k⟩,λf k=>by cases k⟩
def zcT(q:Int×Int):List SV:=[i64 q.1,i64 q.2]
def rI(l:List (Nat×Nat)):List (Int×Int):=l.map λq=>((q.1:Int),(q.2:Int))
theorem zhH(l:List (Nat×Nat))(q:Nat×Nat):rI (l++[q])=rI l++[((q.1:Int),(q.2:Int))]:=by unfold rI;rw[XG];rfl
theorem zfC(l:List (Nat×Nat)):(rI l).length=l.length:=by unfold rI;simp
theorem ztJ{l:List (Nat×Nat)}{i:Nat}{z:Int×Int}(h:(rI l)[i]? =some z):∃q,l[i]? =some q/\z=((q.1:Int),(q.2:Int)):=by
 unfold rI at h;rw[XC]at h
 cases hq:l[i]? with
 | none=>rw[hq]at h;cases h
 | some q=>rw[hq]at h;exact⟨q,rfl,(Xi h).symm⟩
theorem zqy[DecidablePred on](h:z8 on b=(kg on a,none)):kg on b=kg on a:=by
 show(z8 on b).1++((z8 on b).2.map λf=>(f,b)).toList=_;rw[h];exact Xy _
theorem zgF[DecidablePred on]{f:Nat}(h:z8 on b=((z8 on a).1,some ((z8 on a).2.getD a)))(hf:(z8 on a).2=some f):
  kg on a=(z8 on a).1++[(f,a)]/\kg on b=(z8 on a).1++[(f,b)]:=by
 constructor
 ·unfold kg;rw[hf];rfl
 ·show(z8 on b).1++((z8 on b).2.map λf=>(f,b)).toList=_;rw[h,hf];rfl
theorem zqz[DecidablePred on](h:z8 on b=((z8 on a).1,some ((z8 on a).2.getD a)))(hf:(z8 on a).2=none):
  kg on b=kg on a++[(a,b)]:=by
 show(z8 on b).1++((z8 on b).2.map λf=>(f,b)).toList=((z8 on a).1++((z8 on a).2.map λf=>(f,a)).toList)++[(a,b)];rw[h,hf];simp
theorem zCM(pen:Pen)(long:Int)(hk:kI pen)(hlong:long<=70368744177664):CG0 130 [.agg (jo pen),i64 long,i64 4096] [] (.sl zcT (rI (qS pen long))) []:=by
 refine zc Tryz.func130 ?_;refine⟨Int×Int,zcT,[],rfl,Ob.o2 ?_⟩;have bad:(¬kI pen∨long < 1∨(0 < qL pen.d/\drawn pen.d=0))->([]:List (Int×Int))=rI (qS pen long):=λh=>by unfold qS;rw[if_pos h];rfl
 have hd:=hk.2.2.2.2.1;obtain⟨d1,d2,d3,d4⟩:=yo hd;have hps:=zbD pen.d pen.d.length (Xh _);rw[yO]at hps;have q0:=yn (r:=0) d1 pen.d.length (Xh _);have q1:=yn (r:=1) d1 pen.d.length (Xh _);have hdr:=zd0 pen.d;refine zb.t (zBo pen.d hd)<|⟨λl1=>?_,λl1=>?_⟩
 ·have l1:long < 1:=l1;exact z9 (bad (.inr (.inl l1)))
 have l1:¬long < 1:=l1;refine zb.t (zcJ pen)<|⟨λh=>absurd hk h,λ_=>?_⟩
 have good:(qL pen.d=drawn pen.d->rI (qS pen long)=[((0:Int),long)])/\(¬qL pen.d=drawn pen.d->¬(0 < qL pen.d/\drawn pen.d=0)->qS pen long=kg (onD pen) (zbi pen long.toNat long.toNat 0)):=by
  refine⟨λh=>?_,λh h0=>?_⟩
  ·unfold qS;rw[if_neg (λk=>by rcases k with k | k | k;exact k hk;exact l1 k;omega),if_pos h];show[(((0:Nat):Int),((long.toNat:Nat):Int))]=_;rw[show((long.toNat:Nat):Int)=long by omega];rfl
  ·unfold qS;rw[if_neg (λk=>by rcases k with k | k | k;exact k hk;exact l1 k;exact h0 k),if_neg h]
 refine⟨λpp=>Br.mk (λdz=>?_) (λdz=>?_),λpp=>?_⟩
 ·have pp:0 < qL pen.d:=pp;have dz:drawn pen.d=0:=dz;exact z9 (bad (.inr (.inr ⟨pp,dz⟩)))
 all_goals
  have npd:¬(0 < qL pen.d/\drawn pen.d=0):=by
   first
   | exact λh=>dz h.2
   | exact λh=>pp h.1
  clear pp;refine⟨λe=>?_,λe=>?_⟩
  ·have e:qL pen.d=drawn pen.d:=e;refine⟨Int×Int,zcT,[((0:Int),long)],rfl,Ob.o0 ?_⟩;refine⟨[((0:Int),long)],rfl,Ob.o3 ?_⟩;exact z9 (good.1 e).symm
  have e:¬qL pen.d=drawn pen.d:=e;have hR:=good.2 e npd;have hper:0 < qL pen.d:=oM
  refine⟨Nat×Nat,λs=>⟨[(1,i64 long),(2,i64 4096),(3,.loc 0 0),(7,.own 1),(10,i64 (s.2:Int))],[(0,.box 50 (jo pen)),(1,.arr 33 zcT 2 (rI (kg (onD pen) s.2)))],2,107,0⟩,
   λs=>s.2<=long.toNat/\long.toNat - s.2<=s.1/\zbi pen long.toNat s.1 s.2=zbi pen long.toNat long.toNat 0,λs=>s.1,(long.toNat,0),?_,?_,?_⟩
  ·exact⟨Xe _,Xh _,rfl⟩
  ·exact zf [0,1]
  rintro⟨k,a⟩ ⟨h1,h2,h3⟩
  dsimp only at h1 h2 h3;have len:=zfC (kg (onD pen) a);have over:¬(a < long.toNat/\(kg (onD pen) a).length<=4096)->LE (.sl zcT (rI (kg (onD pen) a))) (.sl zcT (rI (qS pen long))):=λh=>z9 (by rw[hR,← h3,zvn h])
  refine⟨λg=>?_,λg=>over λh=>g (show(a:Int) < long by omega)⟩;have g:(a:Int) < long:=g;intro hl1;refine⟨λg2=>?_,λg2=>over λh=>g2 (show((rI (kg (onD pen) a)).length:Int)<=4096 by omega)⟩;have g2:((rI (kg (onD pen) a)).length:Int)<=4096:=g2;obtain⟨x,p1,p2,p3,p4⟩:=zkE (a:=a) hd hper;have ax:=d2 x (Xd p1);refine zb.t (zCL pen a hk hper oM)<|Ar.o ?_;obtain⟨b,hb⟩:∃b,b=a+(min (zd1 pen a) ((long.toNat:Int) - a)).toNat:=⟨_,rfl⟩
  obtain⟨rOn,rOff⟩:=zvo (b:=b) hd hper (show a < b by omega) oM;have hk1:k=(k - 1)+1:=oM;have hb1:b<=long.toNat:=oM;have hb2:long.toNat - b<=k - 1:=oM
  have hb3:zbi pen long.toNat (k - 1) b=zbi pen long.toNat long.toNat 0:=by
   rw[← h3]
   conv=>rhs;rw[hk1]
   show _=if a < long.toNat/\(kg (onD pen) a).length<=4096 then zbi pen long.toNat (k - 1) (a+(min (zd1 pen a) ((long.toNat:Int) - a)).toNat) else a
   rw[if_pos ⟨oM,oM⟩,← hb]
  have p5:(qW pen.d (phD pen a) 0).2=zd1 pen a:=rfl;refine⟨λc=>Ar.fit oM ?_,λc=>?_⟩
  ·have hT:((a:Int)+(qW pen.d (phD pen a) 0).2)=(b:Int):=by have c:zd1 pen a < long - a:=c;omega
   intro hl2;refine Dv.pos ⟨oM,dC⟩<|⟨λev=>?_,λev=>?_⟩
   ·have ev:(qW pen.d (phD pen a) 0).1 % 2=0:=by have ev:((qW pen.d (phD pen a) 0).1:Int) % 2=0:=ev;omega
    have rOn:=rOn ev;have new:(z8 (onD pen) a).2=none->rI (kg (onD pen) a)++[((a:Int),((a:Int)+(qW pen.d (phD pen a) 0).2))]=rI (kg (onD pen) b):=λh=>by rw[zqz rOn h,zhH,hT]
    refine⟨λn0=>?_,λn0=>?_⟩
    ·have n0:(0:Int) < ((rI (kg (onD pen) a)).length:Int):=n0;refine Ar.o<|Ob.o<|Ob.o ?_;intro z hz;obtain⟨q,hq,hzq⟩:=ztJ (show(rI (kg (onD pen) a))[(((rI (kg (onD pen) a)).length:Int) - 1).toNat]? =some z from hz);rw[show(((rI (kg (onD pen) a)).length:Int) - 1).toNat=(kg (onD pen) a).length - 1 by omega]at hq;obtain⟨w1,w2⟩:=zmz hq;refine⟨λm=>?_,λm=>?_⟩
     ·have m:z.2=(a:Int):=m;obtain⟨f,hf⟩:=w1.1 (by rw[hzq]at m;dsimp only at m;omega);obtain⟨e1,e2⟩:=zgF rOn hf;have hz1:z.1=(f:Int):=by rw[hzq,w2 f hf]
      have ll:((((rI (kg (onD pen) a)).length:Int) - 1).toNat)=(rI (z8 (onD pen) a).1).length:=by
       have:(kg (onD pen) a).length=(z8 (onD pen) a).1.length+1:=by rw[e1,Xj];rfl
       rw[zfC]at len ⊢;rw[zfC];omega
      refine Ar.o<|Ob.o<|Ob.o ?_;intro z' hz';have hzz:z'=z:=Xi (hz'.symm.trans hz);refine⟨(z'.1,((a:Int)+(qW pen.d (phD pen a) 0).2)),rfl,?_⟩
      have eq:(rI (kg (onD pen) a)).set (((rI (kg (onD pen) a)).length:Int) - 1).toNat (z'.1,((a:Int)+(qW pen.d (phD pen a) 0).2))=rI (kg (onD pen) b):=by
       rw[ll,e1,e2,zhH,zhH,zgs rfl,hzz,hz1,hT]
      exact⟨(k - 1,b),⟨hb1,hb2,hb3⟩,zL [0,1] ⟨rfl,rfl,rfl,rfl,congrArg (λq=>some (i64 q)) hT,trivial⟩ ⟨rfl,congrArg (λq=>some (Mem.arr 33 zcT 2 q)) eq,trivial⟩,by dsimp only;omega⟩
     ·have m:¬z.2=(a:Int):=m
      have hn:(z8 (onD pen) a).2=none:=by
       cases ho:(z8 (onD pen) a).2 with
       | none=>rfl
       | some f=>exact absurd (by rw[hzq];dsimp only;rw[w1.2 ⟨f,ho⟩]) m
      refine Dv.pos ⟨oM,dC⟩<|⟨λ_=>?_,λh=>absurd (show((qW pen.d (phD pen a) 0).1:Int) % 2=0 by omega) h⟩;refine⟨Int×Int,zcT,[((a:Int),((a:Int)+(qW pen.d (phD pen a) 0).2))],rfl,Ob.o0 ?_⟩;refine⟨[((a:Int),((a:Int)+(qW pen.d (phD pen a) 0).2))],rfl,Ob.o3 ?_⟩;exact⟨(k - 1,b),⟨hb1,hb2,hb3⟩,zL [0,3] ⟨rfl,rfl,rfl,rfl,congrArg (λq=>some (i64 q)) hT,trivial⟩ ⟨rfl,congrArg (λq=>some (Mem.arr 33 zcT 2 q)) (new hn),trivial⟩,by dsimp only;omega⟩
    ·have n0:¬(0:Int) < ((rI (kg (onD pen) a)).length:Int):=n0
     have hn:(z8 (onD pen) a).2=none:=by
      cases ho:(z8 (onD pen) a).2 with
      | none=>rfl
      | some f=>
       have:(kg (onD pen) a).length=(z8 (onD pen) a).1.length+1:=by rw[(zgF rOn ho).1,Xj];rfl
       omega
     refine Dv.pos ⟨oM,dC⟩<|⟨λ_=>?_,λh=>absurd (show((qW pen.d (phD pen a) 0).1:Int) % 2=0 by omega) h⟩;refine⟨Int×Int,zcT,[((a:Int),((a:Int)+(qW pen.d (phD pen a) 0).2))],rfl,Ob.o0 ?_⟩;refine⟨[((a:Int),((a:Int)+(qW pen.d (phD pen a) 0).2))],rfl,Ob.o3 ?_⟩;exact⟨(k - 1,b),⟨hb1,hb2,hb3⟩,zL [0,3] ⟨rfl,rfl,rfl,rfl,congrArg (λq=>some (i64 q)) hT,trivial⟩ ⟨rfl,congrArg (λq=>some (Mem.arr 33 zcT 2 q)) (new hn),trivial⟩,by dsimp only;omega⟩
   ·have ev:¬(qW pen.d (phD pen a) 0).1 % 2=0:=by have ev:¬((qW pen.d (phD pen a) 0).1:Int) % 2=0:=ev;omega
    refine Dv.pos ⟨oM,dC⟩<|⟨λh=>absurd (show((qW pen.d (phD pen a) 0).1:Int) % 2=0 from h) oM,λ_=>?_⟩;exact⟨(k - 1,b),⟨hb1,hb2,hb3⟩,zL [0,1] ⟨rfl,rfl,rfl,rfl,congrArg (λq=>some (i64 q)) hT,trivial⟩ ⟨rfl,congrArg (λq=>some (Mem.arr 33 zcT 2 q)) (by rw[zqy (rOff ev)]),trivial⟩,by dsimp only;omega⟩
  ·have hT:long=(b:Int):=by have c:¬zd1 pen a < long - a:=c;omega
   intro hl2;refine Dv.pos ⟨oM,dC⟩<|⟨λev=>?_,λev=>?_⟩
   ·have ev:(qW pen.d (phD pen a) 0).1 % 2=0:=by have ev:((qW pen.d (phD pen a) 0).1:Int) % 2=0:=ev;omega
    have rOn:=rOn ev;have new:(z8 (onD pen) a).2=none->rI (kg (onD pen) a)++[((a:Int),long)]=rI (kg (onD pen) b):=λh=>by rw[zqz rOn h,zhH,hT]
    refine⟨λn0=>?_,λn0=>?_⟩
    ·have n0:(0:Int) < ((rI (kg (onD pen) a)).length:Int):=n0;refine Ar.o<|Ob.o<|Ob.o ?_;intro z hz;obtain⟨q,hq,hzq⟩:=ztJ (show(rI (kg (onD pen) a))[(((rI (kg (onD pen) a)).length:Int) - 1).toNat]? =some z from hz);rw[show(((rI (kg (onD pen) a)).length:Int) - 1).toNat=(kg (onD pen) a).length - 1 by omega]at hq;obtain⟨w1,w2⟩:=zmz hq;refine⟨λm=>?_,λm=>?_⟩
     ·have m:z.2=(a:Int):=m;obtain⟨f,hf⟩:=w1.1 (by rw[hzq]at m;dsimp only at m;omega);obtain⟨e1,e2⟩:=zgF rOn hf;have hz1:z.1=(f:Int):=by rw[hzq,w2 f hf]
      have ll:((((rI (kg (onD pen) a)).length:Int) - 1).toNat)=(rI (z8 (onD pen) a).1).length:=by
       have:(kg (onD pen) a).length=(z8 (onD pen) a).1.length+1:=by rw[e1,Xj];rfl
       rw[zfC]at len ⊢;rw[zfC];omega
      refine Ar.o<|Ob.o<|Ob.o ?_;intro z' hz';have hzz:z'=z:=Xi (hz'.symm.trans hz);refine⟨(z'.1,long),rfl,?_⟩
      have eq:(rI (kg (onD pen) a)).set (((rI (kg (onD pen) a)).length:Int) - 1).toNat (z'.1,long)=rI (kg (onD pen) b):=by
       rw[ll,e1,e2,zhH,zhH,zgs rfl,hzz,hz1,hT]
      exact⟨(k - 1,b),⟨hb1,hb2,hb3⟩,zL [0,1] ⟨rfl,rfl,rfl,rfl,congrArg (λq=>some (i64 q)) hT,trivial⟩ ⟨rfl,congrArg (λq=>some (Mem.arr 33 zcT 2 q)) eq,trivial⟩,by dsimp only;omega⟩
     ·have m:¬z.2=(a:Int):=m
      have hn:(z8 (onD pen) a).2=none:=by
       cases ho:(z8 (onD pen) a).2 with
       | none=>rfl
       | some f=>exact absurd (by rw[hzq];dsimp only;rw[w1.2 ⟨f,ho⟩]) m
      refine Dv.pos ⟨oM,dC⟩<|⟨λ_=>?_,λh=>absurd (show((qW pen.d (phD pen a) 0).1:Int) % 2=0 by omega) h⟩;refine⟨Int×Int,zcT,[((a:Int),long)],rfl,Ob.o0 ?_⟩;refine⟨[((a:Int),long)],rfl,Ob.o3 ?_⟩;exact⟨(k - 1,b),⟨hb1,hb2,hb3⟩,zL [0,3] ⟨rfl,rfl,rfl,rfl,congrArg (λq=>some (i64 q)) hT,trivial⟩ ⟨rfl,congrArg (λq=>some (Mem.arr 33 zcT 2 q)) (new hn),trivial⟩,by dsimp only;omega⟩
    ·have n0:¬(0:Int) < ((rI (kg (onD pen) a)).length:Int):=n0
     have hn:(z8 (onD pen) a).2=none:=by
      cases ho:(z8 (onD pen) a).2 with
      | none=>rfl
      | some f=>
       have:(kg (onD pen) a).length=(z8 (onD pen) a).1.length+1:=by rw[(zgF rOn ho).1,Xj];rfl
       omega
     refine Dv.pos ⟨oM,dC⟩<|⟨λ_=>?_,λh=>absurd (show((qW pen.d (phD pen a) 0).1:Int) % 2=0 by omega) h⟩;refine⟨Int×Int,zcT,[((a:Int),long)],rfl,Ob.o0 ?_⟩;refine⟨[((a:Int),long)],rfl,Ob.o3 ?_⟩;exact⟨(k - 1,b),⟨hb1,hb2,hb3⟩,zL [0,3] ⟨rfl,rfl,rfl,rfl,congrArg (λq=>some (i64 q)) hT,trivial⟩ ⟨rfl,congrArg (λq=>some (Mem.arr 33 zcT 2 q)) (new hn),trivial⟩,by dsimp only;omega⟩
   ·have ev:¬(qW pen.d (phD pen a) 0).1 % 2=0:=by have ev:¬((qW pen.d (phD pen a) 0).1:Int) % 2=0:=ev;omega
    refine Dv.pos ⟨oM,dC⟩<|⟨λh=>absurd (show((qW pen.d (phD pen a) 0).1:Int) % 2=0 from h) oM,λ_=>?_⟩;exact⟨(k - 1,b),⟨hb1,hb2,hb3⟩,zL [0,1] ⟨rfl,rfl,rfl,rfl,congrArg (λq=>some (i64 q)) hT,trivial⟩ ⟨rfl,congrArg (λq=>some (Mem.arr 33 zcT 2 q)) (by rw[zqy (rOff ev)]),trivial⟩,by dsimp only;omega⟩
theorem zfD(q:List Pt)(x:Pt)(hq:q.length<=100000):CG0 196 [.sl ptE q,.agg (ptE x)] [] (.own 0) [(0,.arr 35 ptE 2 (yI q x))]:=by
 refine qY tok mix Tryz.func196 rfl rfl rfl<|⟨Pt,ptE,[],rfl,Ob.o2 ?_⟩;refine⟨Nat,λi=>⟨[(0,.sl ptE q),(3,.loc 0 0),(5,.own 1),(6,i64 (i:Int))],[(0,.box 35 (ptE x)),(1,.arr 35 ptE 2 (q.take i))],2,40,0⟩,λi=>i<=q.length,λi=>q.length - i,0,?_,?_,?_⟩
 ·exact Xe _
 ·exact zf [0,1]
 rintro i hi
 intro hl1;refine⟨λg=>?_,λg=>?_⟩
 ·have g:(i:Int) < q.length:=g;refine Ob.o ?_;intro y hy;have hy:q[i]? =some y:=hy;refine⟨Pt,ptE,[y],rfl,Ob.o0 ?_⟩;refine⟨[y],rfl,Ob.o16 ?_⟩;exact Ar.o<|⟨i+1,oM,zC [0,3] ⟨rfl,congrArg (λq=>some (Mem.arr 35 ptE 2 q)) (by rw[Xm,hy];rfl),trivial⟩,by dsimp only;omega⟩
 have g:¬(i:Int) < q.length:=g;have et:q.take i=q:=Xf oM;have tl:(q.take i).length<=100000:=by rw[et];exact hq
 intro hl2;refine Dr.d<|Br.mk (λz=>?_) (λz=>?_)
 ·have z:(q.length:Int)=0:=z;refine Ob.mk (by kernel_rfl)<|⟨Pt,ptE,[x],rfl,Ob.o0 ?_⟩;refine⟨[x],rfl,Ob.o3 ?_⟩;exact⟨some 3,.own _ rfl,congrArg (λq=>some (Mem.arr 35 ptE 2 q)) (by rw[et,znW oM]),λ_ _=>rfl⟩
 have z:¬(q.length:Int)=0:=z;refine Ar.o<|Ob.o ?_;intro y hy
 have hy:q[q.length - 1]? =some y:=by
  have hy:q[((q.length:Int) - 1).toNat]? =some y:=hy
  rwa [show((q.length:Int) - 1).toNat=q.length - 1 by omega]at hy
 refine Ob.mk (by kernel_rfl)<|⟨λk=>?_,λk=>?_⟩
 ·have k:¬y=x:=λh=>k (k9.2 h)
  refine⟨Pt,ptE,[x],rfl,Ob.o0 ?_⟩;refine⟨[x],rfl,Ob.o3 ?_⟩;exact⟨some 3,.own _ rfl,congrArg (λq=>some (Mem.arr 35 ptE 2 q)) (by rw[et,ziO hy k]),λ_ _=>rfl⟩
 ·have k:y=x:=k9.1 (Xa.1 k);exact⟨some 1,.own _ rfl,congrArg (λq=>some (Mem.arr 35 ptE 2 q)) (by rw[et,znV hy k]),λ_ _=>rfl⟩
theorem zkF{c:List Pt}{i j:Nat}(h:i<=j):atS c i<=atS c j:=by
 obtain⟨k,rfl⟩:∃k,j=i+k:=⟨j - i,oM⟩;clear h
 induction k with
 | zero=>exact KB _
 | succ k ih=>
  have:=yF (nth c (i+k)) (nth c (i+k+1));show atS c i<=atS c (i+k)+zP (nth c (i+k)) (nth c (i+k+1));omega
theorem zyn{c:List Pt}{x:Int}{i:Nat}(h1:¬x < atS c i)(h2:x < atS c (i+1)):∀m,i<=m->zki c x m=i
 | 0,h=>by
   have:i=0:=oM;subst this;rfl
 | m+1,h=>by
  by_cases e:i=m+1
  ·rw[e]at h1 ⊢;exact zkC h1
  ·have:=zkF (c:=c) (show i+1<=m+1 by omega);rw[zyh oM];exact zyn h1 h2 m oM
theorem zob{c:List Pt}{x:Int}{i:Nat}(h:i<=c.length - 2)(h1:¬x < atS c i)(h2:x < atS c (i+1)):zda c x=qQ (nth c i) (nth c (i+1)) (x - atS c i) (zP (nth c i) (nth c (i+1))):=by
 unfold zda;rw[zyn h1 h2 _ h];dsimp only;rw[show atS c (i+1) - atS c i=zP (nth c i) (nth c (i+1)) by show atS c i+zP (nth c i) (nth c (i+1)) - atS c i=_;omega]
theorem zmA{a b:Pt}{d:Int}(hd:1<=d/\d<=1099511627776)(ha:zn a):qQ a b 0 d=a:=by
 unfold qQ;rw[if_neg oM,uY ha.1,uY ha.2,show qg 0 0 d=0 from(zdI oM).2 ⟨KB 0,oM⟩,Int.zero_mul,Int.zero_mul]
 have e:zM 0 d=0:=by
  have h1:=zpU (M:=0) (show 0 < d by omega) (KB 0) oM;omega
 rw[e]
 cases a
 simp
theorem zqA{x d:Int}(hd:1<=d):zM (d*x) d=x:=by
 obtain⟨D,rfl⟩:∃D:Nat,d=D:=⟨d.toNat,oM⟩;have hD:0 < D:=oM
 have e:(2*((D:Int)*x).natAbs+(D:Int).natAbs) / (2*(D:Int).natAbs)=x.natAbs:=by
  rw[Qx,QC,show 2*(D*x.natAbs)+D=D+(2*D)*x.natAbs by rw[KD];omega,Nat.add_mul_div_left _ _ oM,Kg oM,X6]
 unfold zM;rw[e]
 by_cases hx:x < 0
 ·have:=Int.mul_neg_of_pos_of_neg (show(0:Int) < D by omega) hx;rw[if_neg oM];omega
 ·have:=XH (show(0:Int)<=D by omega) (show 0<=x by omega);rw[if_pos oM];omega
theorem zmB{a b:Pt}{d:Int}(hd:1<=d/\d<=1099511627776)(ha:zn a)(hb:zn b):qQ a b d d=b:=by
 unfold qQ;rw[if_neg oM,uY ha.1,uY ha.2,uY hb.1,uY hb.2,show qg d 0 d=d from(zdI oM).2 ⟨oM,KB d⟩,zqA hd.1,zqA hd.1]
 cases b
 simp;omega
theorem zvp{a b:Pt}(ha:zn a)(hb:zn b)(h:a≠b):1<=zP a b:=by
 have hs:=zkb hb ha;have hr:=yF a b;refine Q5.1 λk=>?_
 unfold zP zpx at k hr;have dr:=zet (jZ (zcE b a)) (jZ (zcE b a))
 have d0:1<=zit (zcE b a) (zcE b a):=by
  unfold zit dtp;have x0:=jn (jz (zcE b a)).x;have y0:=jn (jz (zcE b a)).y;refine Q5.1 λk2=>h ?_
  have zx:(jz (zcE b a)).x*(jz (zcE b a)).x=0:=oM;have zy:(jz (zcE b a)).y*(jz (zcE b a)).y=0:=oM;have zx:=(Int.mul_eq_zero.1 zx).elim id id;have zy:=(Int.mul_eq_zero.1 zy).elim id id;rw[hs]at zx zy;have zx:hI (b.x - a.x)=0:=zx;have zy:hI (b.y - a.y)=0:=zy;have e:∀n,hI n=0->n=0:=λn hn=>by unfold hI qg at hn;split at hn <;> (try split at hn) <;> omega
  have:=e _ zx;have:=e _ zy
  cases a;cases b
  simp only[Pt.mk.injEq];dsimp only at*;omega
 have:=zrL (n:=65536*zit (zcE b a) (zcE b a)) (a:=256) oM (by unfold zit at d0 ⊢;omega) oM;omega
end
end Go.Gs
