/- errors.As at the error of a node ('wrong'), by the kit's walk: nil; the error's own type is the target's. -/
import Derived.Test.YtjgadnaphffpkaaGreatDoorMA
import Derived.Test.YtjgadnaphffpkaaGreatDoorMAL
import Derived.WalkKit
import Derived.LaidEql
import Derived.Stop.Asserts
import Derived.RowKitTokens
import Derived.Test.YtjgadnaphffpkaaGreatDoorMAM
import Derived.Deep.Slices
import Derived.Deep.Fields
import Derived.ChangeSame
import Derived.Lib.SmallJoins
import Derived.ProofKit
import Derived.OpenShut
import Derived.Carry
import Derived.Test.YtjgadnaphffpkaaGreatDoorMAY
set_option maxRecDepth 100000
set_option maxHeartbeats 8000000
set_option linter.all false
namespace Go.Gs
open Go.Proofs Go.RowKit Go.Extern.Stop Go.Stop Go.Extern
theorem ztC(t:Value)(w:World):Calls Tryz.prog 208 #[.nilIface,t] w λe w'=>e=.returned (.bool false)/\w'=w:=by
 go_enter Tryz.func208,Tryz.ntmps208
 go_wp2
 go_ret
 exact⟨rfl,rfl⟩
theorem zoz(t:Addr)(w:World):(ReflectliteValue.unpack (.iface 236 (.pointer (some t)))).run Tryz.prog w
  =.ok (.agg #[.pointer (some ⟨3,236,none⟩),.pointer (some ⟨w.heap.size,0,none⟩),.int .u64 150]) (w.alloc (.cells #[.pointer (some t)] 236)):=by kernel_rfl
theorem zvx(a:Addr)(w:World):(ReflectliteValue.methodAny (ReflectliteValue.valueError "reflectlite.Value.Type" 0) (λt _ _ _=>ReflectliteType.toType t) #[.agg #[.pointer (some ⟨3,236,none⟩),.pointer (some a),.int .u64 150]]).run Tryz.prog w
  =.ok (.iface 321 (.agg #[.pointer (some ⟨3,236,none⟩)])) w:=by kernel_rfl
theorem zkX(h:Value)(w:World):(Go.method 500 321 (.agg #[h]) "Kind").run Tryz.prog w=.ok (434,h) w:=by kernel_rfl
theorem zvy(w:World):((ReflectliteType.abiMethod λt=>(λa:Nat=>Value.int IntKind.u8 (a:Int)) <$> Rtype.kind t) #[.pointer (some ⟨3,236,none⟩)]).run Tryz.prog w=.ok (.int .u8 22) w:=by kernel_rfl
theorem zvz(w:World):((ReflectliteType.abiMethod λt=>(λa:Nat=>Value.int IntKind.u8 (a:Int)) <$> Rtype.kind t) #[.pointer (some ⟨3,234,none⟩)]).run Tryz.prog w=.ok (.int .u8 25) w:=by kernel_rfl
theorem zvA(z:Sem Value)(f:TypeId->Addr->Nat->Nat->Sem Value)(v:Value):
  ReflectliteValue.method z f #[v]=(do match ← ReflectliteValue.parts v with | none=>z | some (t,a,fl)=>f t a fl (fl % 32)):=rfl
theorem zlt(a:Addr)(w:World):(ReflectliteValue.parts (.agg #[.pointer (some ⟨3,236,none⟩),.pointer (some a),.int .u64 150])).run Tryz.prog w=.ok (some (236,a,150)) w:=by kernel_rfl
theorem ztD(a p:Addr)(W:World)(ha:W.cell? a=some (.pointer (some p))):
  (ReflectliteValue.method (ReflectliteValue.valueError "reflectlite.Value.IsNil" 0) ReflectliteValue.isNil #[.agg #[.pointer (some ⟨3,236,none⟩),.pointer (some a),.int .u64 150]]).run Tryz.prog W=.ok (.bool false) W:=by
 rw[zvA];simp only[Sem.run_bind,zlt,Result.andThen];simp[ReflectliteValue.isNil,loadVar,isAgg,underlying,Tryz.underlying236,ha,Result.andThen]
theorem zkY(h:Value)(w:World):(Go.method 500 321 (.agg #[h]) "Elem").run Tryz.prog w=.ok (445,.agg #[h]) w:=by kernel_rfl
theorem zeB(h:Value)(w:World):(Go.method 500 321 (.agg #[h]) "Implements").run Tryz.prog w=.ok (446,.agg #[h]) w:=by kernel_rfl
theorem zcY(h:Value)(w:World):(Go.method 500 321 (.agg #[h]) "AssignableTo").run Tryz.prog w=.ok (443,.agg #[h]) w:=by kernel_rfl
theorem zvB(w:World):(ReflectliteType.method ReflectliteType.elem #[.agg #[.pointer (some ⟨3,236,none⟩)]]).run Tryz.prog w=.ok (.iface 321 (.agg #[.pointer (some ⟨3,234,none⟩)])) w:=by kernel_rfl
theorem zjl(w:World):(ReflectliteType.relation "Implements" ReflectliteType.implements_ #[.agg #[.pointer (some ⟨3,234,none⟩)],.iface 321 (.agg #[.pointer (some ⟨3,231,none⟩)])]).run Tryz.prog w=.ok (.bool true) w:=by kernel_rfl
theorem zqR(v:Value)(w:World):(ReflectliteType.typeOf #[.iface 234 v]).run Tryz.prog w=.ok (.iface 321 (.agg #[.pointer (some ⟨3,234,none⟩)])) w:=by kernel_rfl
theorem zjm(w:World):(ReflectliteType.relation "AssignableTo" ReflectliteType.assignableTo #[.agg #[.pointer (some ⟨3,234,none⟩)],.iface 321 (.agg #[.pointer (some ⟨3,234,none⟩)])]).run Tryz.prog w=.ok (.bool true) w:=by kernel_rfl
theorem zoA(c u:Value)(w:World):(ReflectliteValue.unpack (.iface 234 (.agg #[c,u]))).run Tryz.prog w
  =.ok (.agg #[.pointer (some ⟨3,234,none⟩),.pointer (some ⟨w.heap.size,0,none⟩),.int .u64 153]) (w.alloc (.cells #[c,u] 234)):=by kernel_rfl
theorem zqS(w:World):(Rtype.elem? 236).run Tryz.prog w=.ok (some 234) w:=by kernel_rfl
theorem zAE(p:Addr)(w:World):(ReflectliteValue.mk 234 p ReflectliteValue.flagAddr).run Tryz.prog w=.ok (.agg #[.pointer (some ⟨3,234,none⟩),.pointer (some p),.int .u64 409]) w:=by kernel_rfl
theorem ztE(a p:Addr)(W:World)(ha:W.cell? a=some (.pointer (some p))):
  (ReflectliteValue.method (ReflectliteValue.valueError "reflectlite.Value.Elem" 0) ReflectliteValue.elem #[.agg #[.pointer (some ⟨3,236,none⟩),.pointer (some a),.int .u64 150]]).run Tryz.prog W
   =.ok (.agg #[.pointer (some ⟨3,234,none⟩),.pointer (some p),.int .u64 409]) W:=by
 rw[zvA];simp only[Sem.run_bind,zlt,Result.andThen];simp[ReflectliteValue.elem,loadVar,isAgg,underlying,Tryz.underlying236,ha,Result.andThen,zqS,zAE]
theorem zAF(v x:Value):ReflectliteValue.set #[v,x]=(do
  let (some (dst,a,fl),some (src,b,_)):=(← ReflectliteValue.parts v,← ReflectliteValue.parts x)
   | unsupported (.noEntry "extern/(internal/reflectlite.Value).Set.zeroValue")
  if fl / ReflectliteValue.flagAddr % 2==0 then unsupported (.noEntry "extern/(internal/reflectlite.Value).Set.unaddressable")
  let val ← loadVar src b
  if ← Rtype.directlyAssignable dst src then storeVar dst a val
  else if ← Rtype.implements dst src then
   if (← Rtype.kind src)==20 then
    match val with
    | .nilIface=>unsupported (.noEntry "extern/reflectlite: a nil value of one interface type handed on as a value of another")
    | _=>storeVar dst a val
   else storeVar dst a (.iface src val)
  else panicString ("reflectlite.Set: value of type " ++(← Rtype.spelt src)++ " is not assignable to type " ++(← Rtype.spelt dst))
  pure (.tuple #[])):=rfl
theorem zqT(a:Addr)(w:World):(ReflectliteValue.parts (.agg #[.pointer (some ⟨3,234,none⟩),.pointer (some a),.int .u64 409])).run Tryz.prog w=.ok (some (234,a,409)) w:=by kernel_rfl
theorem ztF(a:Addr)(w:World):(ReflectliteValue.parts (.agg #[.pointer (some ⟨3,234,none⟩),.pointer (some a),.int .u64 153])).run Tryz.prog w=.ok (some (234,a,153)) w:=by kernel_rfl
theorem zqU(w:World):(Rtype.directlyAssignable 234 234).run Tryz.prog w=.ok true w:=by kernel_rfl
theorem zoB:∃i,ti tt 234=some i/\i.sz=2/\i.kind.agg=true:=⟨_,rfl,rfl,rfl⟩
theorem zvC(c u:Value)(s:Nat)(W:World)(h:W.heap[s]? =some (.cells #[c,u] 234 (0,0))):
  (loadVar 234 ⟨s,0,none⟩).run Tryz.prog W=.ok (.agg #[c,u]) W:=by
 obtain⟨i,hi,hs,ha⟩:=zoB;have hT:=tok _ i hi
 have hl:=run_loadCells_list (P:=Tryz.prog) W ⟨s,0,none⟩ [c,u] (λj v hv=>by
  rw[yd]
  match j,hv with
  | 0,hv=>cases hv;simp[World.cell?,h]
  | 1,hv=>cases hv;simp[World.cell?,h]
  | j+2,hv=>simp at hv)
 unfold loadVar;rw[Sem.run_bind,hT.agg W,Result.andThen_ok,ha];simp only[if_true,Sem.run_bind,hT.size,Result.andThen_ok,hs];simp at hl;simp[hl]
theorem ztG(c u:Value)(b:Nat)(cur:Array Value)(W:World)(hc:cur.size=2)(h:W.heap[b]? =some (.cells cur 234 (0,0)))(h1:c.oneCell'=true)(h2:u.oneCell'=true):
  (storeVar 234 ⟨b,0,none⟩ (.agg #[c,u])).run Tryz.prog W=.ok () (W.setRow b #[c,u]):=by
 obtain⟨i,hi,hs,ha⟩:=zoB
 have:=vk (tok _ i hi) (v:=.agg #[c,u]) (off:=0) h (by rw[hs];rfl) (by rw[hs,hc];decide) (λx hx=>by
  have hx:x∈[c,u]:=hx;simp only[Kn,Kw,or_false]at hx
  rcases hx with rfl | rfl <;> assumption)
 rw[this,Kx (by simp[hs,hc]:cur.toList.length<=0+i.sz),Yg,Qi,XE];rfl
theorem zyr (b s:Nat) (c u:Value) (cur:Array Value) (W:World) (hs:W.heap[s]? =some (.cells #[c,u] 234 (0,0))) (hc:cur.size=2)
  (hb:W.heap[b]? =some (.cells cur 234 (0,0))) (h1:c.oneCell'=true) (h2:u.oneCell'=true):
  (ReflectliteValue.set #[.agg #[.pointer (some ⟨3,234,none⟩),.pointer (some ⟨b,0,none⟩),.int .u64 409],.agg #[.pointer (some ⟨3,234,none⟩),.pointer (some ⟨s,0,none⟩),.int .u64 153]]).run Tryz.prog W
   =.ok (.tuple #[]) (W.setRow b #[c,u]):=by
 rw[zAF];simp only[Sem.run_bind,zqT,ztF,Result.andThen];simp[ReflectliteValue.flagAddr,zvC c u s W hs,zqU,ztG c u b cur W hc hb h1 h2,Result.andThen]
theorem ztH (b:Nat) (c u:Value) (cur:Array Value) (w:World) (hg:w.cell? ⟨0,0,none⟩=some (.iface 321 (.agg #[.pointer (some ⟨3,231,none⟩)]))) (hc:cur.size=2)
  (hb:w.heap[b]? =some (.cells cur 234 (0,0))) (h1:c.oneCell'=true) (h2:u.oneCell'=true):
  Calls Tryz.prog 208 #[.iface 234 (.agg #[c,u]),.iface 236 (.pointer (some ⟨b,0,none⟩))] w λev w'=>ev=.returned (.bool true)/\w'=((((w.alloc (.cells #[.pointer (some ⟨b,0,none⟩)] 236)).alloc (.cells #[.pointer (some ⟨3,236,none⟩),.pointer (some ⟨w.heap.size,0,none⟩),.int .u64 150] 272)).alloc (.cells #[.pointer (some ⟨3,236,none⟩),.pointer (some ⟨w.heap.size,0,none⟩),.int .u64 150] 272)).alloc (.cells #[c,u] 234)).setRow b #[c,u]:=by
 have hV:=@run_callFunc_extern Tryz.prog 267 _ (λargs=>ReflectliteValue.unpack (args.getD 0 (.tuple #[]))) Tryz.func267 (by kernel_rfl) (by kernel_rfl) (by kernel_rfl) (by kernel_rfl);have hTy:=@run_callFunc_extern Tryz.prog 268 _ (ReflectliteValue.methodAny (ReflectliteValue.valueError "reflectlite.Value.Type" 0) (λt _ _ _=>ReflectliteType.toType t)) Tryz.func268 (by kernel_rfl) (by kernel_rfl) (by kernel_rfl) (by kernel_rfl)
 have hN:=@run_callFunc_extern Tryz.prog 269 _ (ReflectliteValue.method (ReflectliteValue.valueError "reflectlite.Value.IsNil" 0) ReflectliteValue.isNil) Tryz.func269 (by kernel_rfl) (by kernel_rfl) (by kernel_rfl) (by kernel_rfl);have hK:=@run_callFunc_extern Tryz.prog 434 _ (ReflectliteType.abiMethod λt=>do pure (.int .u8 (← Rtype.kind t))) Tryz.func434 (by kernel_rfl) (by kernel_rfl) (by kernel_rfl) (by kernel_rfl)
 have hE:=@run_callFunc_extern Tryz.prog 445 _ (ReflectliteType.method ReflectliteType.elem) Tryz.func445 (by kernel_rfl) (by kernel_rfl) (by kernel_rfl) (by kernel_rfl);have hI:=@run_callFunc_extern Tryz.prog 446 _ (ReflectliteType.relation "Implements" ReflectliteType.implements_) Tryz.func446 (by kernel_rfl) (by kernel_rfl) (by kernel_rfl) (by kernel_rfl);have hO:=@run_callFunc_extern Tryz.prog 328 _ ReflectliteType.typeOf Tryz.func328 (by kernel_rfl) (by kernel_rfl) (by kernel_rfl) (by kernel_rfl)
 have hA:=@run_callFunc_extern Tryz.prog 443 _ (ReflectliteType.relation "AssignableTo" ReflectliteType.assignableTo) Tryz.func443 (by kernel_rfl) (by kernel_rfl) (by kernel_rfl) (by kernel_rfl);have hEl:=@run_callFunc_extern Tryz.prog 329 _ (ReflectliteValue.method (ReflectliteValue.valueError "reflectlite.Value.Elem" 0) ReflectliteValue.elem) Tryz.func329 (by kernel_rfl) (by kernel_rfl) (by kernel_rfl) (by kernel_rfl);have hS:=@run_callFunc_extern Tryz.prog 330 _ ReflectliteValue.set Tryz.func330 (by kernel_rfl) (by kernel_rfl) (by kernel_rfl) (by kernel_rfl);have tO:=zqR
 have mA:=zcY;have aW:=zjm;have vW:=zoA;have f6:=zoz;have f7:=zvx;have mK:=zkX;have mE:=zkY;have mI:=zeB;have kP:=zvy;have kW:=zvz;have eP:=zvB;have iW:=zjl;have n8:=ztD ⟨w.heap.size,0,none⟩ ⟨b,0,none⟩ ((w.alloc (.cells #[.pointer (some ⟨b,0,none⟩)] 236)).alloc (.cells #[.pointer (some ⟨3,236,none⟩),.pointer (some ⟨w.heap.size,0,none⟩),.int .u64 150] 272)) (by simp);have hlt:0 < w.heap.size:=zn1 hg
 have hg2:((w.alloc (.cells #[.pointer (some ⟨b,0,none⟩)] 236)).alloc (.cells #[.pointer (some ⟨3,236,none⟩),.pointer (some ⟨w.heap.size,0,none⟩),.int .u64 150] 272)).cell? ⟨0,0,none⟩=some (.iface 321 (.agg #[.pointer (some ⟨3,231,none⟩)])):=by
  rw[World.cell?_alloc_lt _ _ ⟨0,0,none⟩ (by first | (simp;done) | (simp;omega)),World.cell?_alloc_lt _ _ ⟨0,0,none⟩ hlt];exact hg
 have htl:b < w.heap.size:=by
  rcases Qa b w.heap.size with h | h
  ·exact h
  ·rw[Kj h]at hb;cases hb
 have el:=ztE ⟨w.heap.size,0,none⟩ ⟨b,0,none⟩ (((w.alloc (.cells #[.pointer (some ⟨b,0,none⟩)] 236)).alloc (.cells #[.pointer (some ⟨3,236,none⟩),.pointer (some ⟨w.heap.size,0,none⟩),.int .u64 150] 272)).alloc (.cells #[.pointer (some ⟨3,236,none⟩),.pointer (some ⟨w.heap.size,0,none⟩),.int .u64 150] 272)) (by rw[World.cell?_alloc_lt _ _ ⟨w.heap.size,0,none⟩ (by first | (simp;done) | (simp;omega))];simp)
 have st:=zyr b (w.heap.size+1+1+1) c u cur ((((w.alloc (.cells #[.pointer (some ⟨b,0,none⟩)] 236)).alloc (.cells #[.pointer (some ⟨3,236,none⟩),.pointer (some ⟨w.heap.size,0,none⟩),.int .u64 150] 272)).alloc (.cells #[.pointer (some ⟨3,236,none⟩),.pointer (some ⟨w.heap.size,0,none⟩),.int .u64 150] 272)).alloc (.cells #[c,u] 234))
  (by have:=heap_alloc_new (((w.alloc (.cells #[.pointer (some ⟨b,0,none⟩)] 236)).alloc (.cells #[.pointer (some ⟨3,236,none⟩),.pointer (some ⟨w.heap.size,0,none⟩),.int .u64 150] 272)).alloc (.cells #[.pointer (some ⟨3,236,none⟩),.pointer (some ⟨w.heap.size,0,none⟩),.int .u64 150] 272)) (.cells #[c,u] 234);simpa using this) hc
  (by rw[heap_alloc_old _ _ (by first | (simp;done) | (simp;omega)),heap_alloc_old _ _ (by first | (simp;done) | (simp;omega)),heap_alloc_old _ _ (by first | (simp;done) | (simp;omega)),heap_alloc_old _ _ htl];exact hb) h1 h2
 go_enter Tryz.func208,Tryz.ntmps208
 go_wp2
 refine wp_loop_rounds 1 ?_;rw[rounds_succ]
 go_wp2
 go_ret
 exact⟨rfl,rfl⟩
open Go.Proofs
inductive Er
 | nil
 | w (c:Int) (u:Er)
def erV:Er->Value
 | .nil=>.nilIface
 | .w c u=>.iface 234 (.agg #[.int .i64 c,erV u])
theorem er_if(e:Er):ifB (erV e)=true:=by cases e <;> rfl
theorem zvF(e:Er):(erV e).oneCell'=true:=by cases e <;> rfl
def zvG(e:Er):List SV:=[.op (erV e)]
theorem LE_er{c:Int}{u:Er}:LE (.ifc 234 (.agg [i64 c,.op (erV u)])) (.op (erV (.w c u))):=λS Pm ρ w v hg=>by
 obtain⟨x,rfl,hx⟩:=hg.ifc_inv;obtain⟨vs,rfl,hvs⟩:=hx.agg_inv;obtain⟨a,r,rfl,ha,hr⟩:=hvs.cons_inv;obtain⟨b,r',rfl,hb,hr'⟩:=hr.cons_inv;rw[hr'.nil_inv,ha.val_inv,hb.op_inv.1];exact .d _ _ (.op _ rfl)
theorem zAG{c:Int}:LE (.ifc 234 (.agg [i64 c,.val .nilIface])) (.op (erV (.w c .nil))):=λS Pm ρ w v hg=>by
 obtain⟨x,rfl,hx⟩:=hg.ifc_inv;obtain⟨vs,rfl,hvs⟩:=hx.agg_inv;obtain⟨a,r,rfl,ha,hr⟩:=hvs.cons_inv;obtain⟨b,r',rfl,hb,hr'⟩:=hr.cons_inv;rw[hr'.nil_inv,ha.val_inv,hb.val_inv];exact .d _ _ (.op _ rfl)
def k9(p:Prop)[Decidable p](c:Int):Er:=if p then .w c .nil else .nil
def zaX:List Er->Er
 | []=>.nil
 | .nil::r=>zaX r
 | .w c u::_=>.w 0 (.w c u)
theorem zjn:∀{l:List Er},(∀e∈l,e=.nil)->zaX l=.nil
 | [],_=>rfl
 | .nil::r,h=>zjn (l:=r) λe he=>h e (.tail _ he)
 | .w c u::_,h=>by cases h _ (.head _)
theorem zjo:∀{l:List Er} {i:Nat} {c:Int} {u:Er},(∀e∈l.take i,e=.nil)->l[i]? =some (.w c u)->zaX l=.w 0 (.w c u)
 | [],i,c,u,_,hx=>by simp at hx
 | e::r,0,c,u,_,hx=>by simp at hx;subst hx;rfl
 | e::r,i+1,c,u,h,hx=>by
  have he:e=.nil:=h e (by rw[Ki];exact .head _);subst he;exact zjo (l:=r) (i:=i) (λe he=>h e (by rw[Ki];exact .tail _ he)) (by simpa using hx)
theorem yC(p:Prop)[Decidable p](c:Int):CG0 261 [pr p,i64 c] [] (.op (erV (k9 p c))) []:=by
 refine zc Tryz.func261 ?_;refine⟨λh=>?_,λh=>?_⟩
 ·rw[k9,if_neg h];exact zr1 rfl
 ·rw[k9,if_pos (Xa.1 h)];exact zAG
theorem zmT(l:List Er):CG0 260 [.sl zvG l] [] (.op (erV (zaX l))) []:=by
 refine zc Tryz.func260 ?_;intro hl;refine⟨Nat,λi=>⟨[(7,i64 (i:Int)),(6,i64 (l.length:Int)),(5,.sl zvG l)],[],0,17,0⟩,λi=>i<=l.length/\∀e∈l.take i,e=.nil,λi=>l.length - i,0,⟨Xe _,λt ht=>by cases ht⟩,?_,?_⟩
 ·exact zE []
 rintro i ⟨h1,h2⟩
 refine⟨λg=>?_,λg=>?_⟩
 ·have g:(i:Int) < l.length:=g;refine Ob.o ?_;intro x hx;have hx:l[i]? =some x:=hx;refine⟨λh=>?_,λh=>?_⟩
  ·cases x with
   | nil=>exact absurd rfl h
   | w c u=>rw[zjo h2 hx];exact LE_er
  ·cases x with
   | w c u=>exact absurd (λh=>by cases h) h
   | nil=>
    refine Ar.o<|⟨i+1,⟨oM,λe he=>?_⟩,zE [],by dsimp only;omega⟩;rw[Xm,hx]at he
    rcases Xo.1 he with he | he
    ·exact h2 e he
    ·simpa using he
 have g:¬(i:Int) < l.length:=g;rw[Xg oM]at h2;rw[zjn h2];exact zr1 rfl
theorem glE:GL 0 (.iface 321 (.agg #[.pointer (some ⟨3,231,none⟩)])):=.head _
theorem zhO:zbH Tryz.prog 208:=⟨_,Tryz.func208,rfl,rfl⟩
theorem zoC(x y:SV):CG0 208 [.op (erV .nil),.ifc 236 (.loc 0 0)] [(0,.box 234 [x,y])] (bl false) [(0,.box 234 [x,y])]:=by
 refine⟨zhO,λKeep ρ w vs _ hm hρ hg=>?_⟩;obtain⟨a,r,rfl,ha,hr⟩:=hg.cons_inv;obtain⟨b,r',rfl,hb,hr'⟩:=hr.cons_inv;obtain rfl:=hr'.nil_inv;obtain rfl:=ha.op_inv.1;refine(ztC b w).mono ?_
 rintro e w' ⟨rfl,rfl⟩
 exact⟨_,ρ,rfl,.refl,hm,.d _ _ (.val _)⟩
theorem zN.more{Keep:Nat->Prop}{M:List (Nat×Mem)}{ρ:zj}{w:World}(hm:zN Keep M ρ w)(c:Array Value)(t:TypeId):Stp (Own M ρ) (Own M ρ) ρ ρ w (w.alloc (.cells c t))/\zN Keep M ρ (w.alloc (.cells c t)):=
 hm.same rfl rfl (.cells _ _ _) (by simp) (λb hb=>heap_alloc_old w _ hb)
theorem zoD(c:Int)(u:Er)(x y:SV):CG0 208 [.op (erV (.w c u)),.ifc 236 (.loc 0 0)] [(0,.box 234 [x,y])] (bl true) [(0,.box 234 [i64 c,.op (erV u)])]:=by
 refine⟨zhO,λKeep ρ w vs _ hm hρ hg=>?_⟩;obtain⟨a,r,rfl,ha,hr⟩:=hg.cons_inv;obtain⟨b,r',rfl,hb,hr'⟩:=hr.cons_inv;obtain rfl:=hr'.nil_inv;obtain rfl:=ha.op_inv.1;obtain⟨p,rfl,hp⟩:=hb.ifc_inv;obtain⟨k,hk,rfl⟩:=hp.loc_inv;obtain⟨k',cs,hρ0,hheap,hlen,hone,hcells⟩:=hm.rel 0 _ (.head _);rw[hk]at hρ0;cases hρ0
 refine(ztH k (.int .i64 c) (erV u) cs.toArray w (hm.glc glE) (by simp[hlen]) hheap rfl (zvF u)).mono ?_
 rintro e w' ⟨rfl,rfl⟩
 obtain⟨s1,m1⟩:=hm.more #[.pointer (some ⟨k,0,none⟩)] 236;obtain⟨s2,m2⟩:=m1.more #[.pointer (some ⟨3,236,none⟩),.pointer (some ⟨w.heap.size,0,none⟩),.int .u64 150] 272;obtain⟨s3,m3⟩:=m2.more #[.pointer (some ⟨3,236,none⟩),.pointer (some ⟨w.heap.size,0,none⟩),.int .u64 150] 272;obtain⟨s4,m4⟩:=m3.more #[.int .i64 c,erV u] 234;obtain⟨k2,cs2,hρ2,hheap2,hlen2,_,_⟩:=m4.rel 0 _ (.head _);rw[hk]at hρ2;cases hρ2
 obtain⟨s5,m5⟩:=m4.write (.box 234 [i64 c,.op (erV u)]) (.head _) hk rfl #[.int .i64 c,erV u] λhs=>
  ⟨k,[.int .i64 c,erV u],hk,by simpa using setRow_heap _ k _ _ 234 _ hheap2,rfl,λv hv=>by
   simp only[Kn,Kw,or_false]at hv
   rcases hv with rfl | rfl
   ·rfl
   ·exact zvF u,λj s v hs hv=>by
   match j with
   | 0=>cases hs;cases hv;exact .d _ _ (.val _)
   | 1=>cases hs;cases hv;exact .d _ _ (.op _ (er_if u))
   | j+2=>simp at hs⟩
 exact⟨_,ρ,rfl,(((s1.trans s2).trans s3).trans s4).trans s5,m5,.d _ _ (.val _)⟩
end Go.Gs
namespace Go.Gs
open Go.ChangeShapes Go.WideShapes Go.Deep Go.Joins Go.RowKit
section
variable {H:Type} {enc:TypeId×Value->H} {P:Program} {w:World} {base:Nat} {held:Bool}
end
theorem args_stay{H:Type}{enc:TypeId×Value->H}{P:Program}(hl:laidOutB P=true){W W':World}(hb:Below W.heap.size W W'){sp:Nat->Bool}:
  ∀{ts:List TypeId} {vs:List Value} {ds:List (DataW H)} {ps:List MemPlace},(ts.all λt=>P.readableRec t&&decide (t < P.types.size))=true->
   DataW.TrodAll enc P W 0 (λ_=>true) true ts vs ds ps->(∀p∈ps,p.block < W.heap.size)->(∀p∈ps,sp p.block=true)->DataW.TrodAll enc P W' 0 sp true ts vs ds ps
 | [],[],[],_,_,h,_,_=>h
 | t::ts,v::vs,d::ds,ps,hts,⟨p,q,h1,h2,e⟩,hlt,hsp=>by
  simp only[Yj,Xx,decide_eq_true_eq]at hts;have e1:∀x∈p,x∈ps:=λx hx=>by rw[e];exact Ql _ hx
  have e2:∀x∈q,x∈ps:=λx hx=>by rw[e];exact QA _ hx
  refine⟨p,q,WideElems.Trod_stays hl hts.1.1 hts.1.2 h1 (λx hx=>hb.same (hlt x (e1 x hx))) (λx hx=>hsp x (e1 x hx)),args_stay hl hb (by simpa using hts.2) h2 (λx hx=>hlt x (e2 x hx)) (λx hx=>hsp x (e2 x hx)),e⟩
end Go.Gs
namespace Go.Gs
open Go.ChangeShapes Go.WideShapes Go.Deep Go.Joins Go.RowKit
section
inductive Sh
 | int (k:IntKind)
 | bool
 | sl (e:Sh)
 | st (fs:Sh)
 | ar (es:Sh)
 | nil
 | cons (f r:Sh)
def Sh.T:Sh->Type
 | .int _=>Int
 | .bool=>Bool
 | .sl e=>List e.T
 | .st fs=>fs.T
 | .ar es=>es.T
 | .nil=>Unit
 | .cons f r=>f.T×r.T
def Sh.dflt:(s:Sh)->s.T
 | .int _=>(0:Int)
 | .bool=>false
 | .sl _=>[]
 | .st fs=>fs.dflt
 | .ar es=>es.dflt
 | .nil=>()
 | .cons f r=>(f.dflt,r.dflt)
def Sh.n:Sh->Nat
 | .int _=>1
 | .bool=>1
 | .sl _=>1
 | .st fs=>fs.n
 | .ar es=>es.n
 | .nil=>0
 | .cons f r=>f.n+r.n
def Sh.enc:(s:Sh)->s.T->List SV
 | .int k,n=>[.val (.int k n)]
 | .bool,b=>[.pr (@Eq Bool b true) (instDecidableEqBool b true)]
 | .sl e,xs=>[.sl e.enc xs]
 | .st fs,x=>fs.enc x
 | .ar es,x=>es.enc x
 | .nil,_=>[]
 | .cons f r,x=>f.enc x.1++r.enc x.2
def Sh.wf:(s:Sh)->s.T->Prop
 | .int k,n=>(Lit.int k n).wf=true
 | .bool,_=>True
 | .sl e,xs=>∀x:e.T,@Membership.mem e.T (List e.T) _ xs x->e.wf x
 | .st fs,x=>fs.wf x
 | .ar es,x=>es.wf x
 | .nil,_=>True
 | .cons f r,x=>f.wf x.1/\r.wf x.2
def Sh.fit(P:Program):Sh->(TypeId->Bool)×(List Field->Nat->Bool)×(Nat->TypeId->Bool)
 |.int k=>(λt=>match P.underlying t with
  | some (.int k')=>zqs k k'&&Nat.beq (P.cellsOf t) 1
  | _=>false,λ_ _=>false,λ_ _=>false)
 |.bool=>(λt=>match P.underlying t with
  | some .bool=>Nat.beq (P.cellsOf t) 1
  | _=>false,λ_ _=>false,λ_ _=>false)
 |.sl e=>(λt=>match P.underlying t with
  | some (.slice u)=>(e.fit P).1 u&&Nat.beq (P.cellsOf t) 1&&Nat.blt 0 e.n
  | _=>false,λ_ _=>false,λ_ _=>false)
 |.st fs=>(λt=>match P.underlying t with
  | some (.struct gs)=>(fs.fit P).2.1 gs.toList 0&&Nat.beq (P.cellsOf t) fs.n
  | _=>false,λ_ _=>false,λ_ _=>false)
 |.ar es=>(λt=>match P.underlying t with
  | some (.array n u)=>(es.fit P).2.2 n u&&Nat.beq (P.cellsOf t) es.n
  | _=>false,λ_ _=>false,λ_ _=>false)
 |.nil=>(λ_=>false,λgs _=>match gs with
  | []=>true
  | _=>false,λn _=>match n with
  | 0=>true
  | _=>false)
 |.cons f r=>(λ_=>false,λgs off=>match gs with
  | []=>false
  | g::gs=>Nat.beq g.offset off&&(f.fit P).1 g.type&&(r.fit P).2.1 gs (off+f.n),λn u=>match n with
  | 0=>false
  | n+1=>(f.fit P).1 u&&(r.fit P).2.2 n u)
theorem Sh.enc_len:∀(s:Sh) (x:s.T),(s.enc x).length=s.n
 | .int _,_=>rfl
 | .bool,_=>rfl
 | .sl _,_=>rfl
 | .st fs,x=>Sh.enc_len fs x
 | .ar es,x=>Sh.enc_len es x
 | .nil,_=>rfl
 | .cons f r,x=>by
  show(f.enc x.1++r.enc x.2).length=f.n+r.n;rw[Xi,Sh.enc_len f,Sh.enc_len r]
def Dc(S:Nat->Prop)(w:World)(cs:List SV)(vs:List Value):Prop:=
 vs.length=cs.length/\∀(j:Nat) (s:SV) (v:Value),cs[j]? =some s->vs[j]? =some v->D S w s v/\v.oneCell'=true
variable{S:Nat->Prop}{w:World}
theorem Dc.nil:Dc S w [] []:=⟨rfl,λj s v h=>by simp at h⟩
theorem Dc.append{cs ds:List SV}{vs us:List Value}(h:Dc S w cs vs)(k:Dc S w ds us):Dc S w (cs++ds) (vs++us):=by
 refine⟨by rw[Xi,Xi,h.1,k.1],λj s v hs hv=>?_⟩
 by_cases hj:j < cs.length
 ·rw[XD hj]at hs;rw[XD (by rw[h.1];exact hj)]at hv;exact h.2 j s v hs hv
 ·rw[Xy oM]at hs;rw[Xy (by rw[h.1];omega),h.1]at hv;exact k.2 _ s v hs hv
theorem Dc.one{s:SV}{v:Value}(h:D S w s v)(ho:v.oneCell'=true):Dc S w [s] [v]:=⟨rfl,λj s' v' hs hv=>by
 match j with
 | 0=>simp at hs hv;subst hs;subst hv;exact⟨h,ho⟩
 | j+1=>simp at hs⟩
end
section
variable {H:Type} {enc:TypeId×Value->H} {P:Program} {W:World} {held:Bool}
theorem zki(L:List Value)(off a b:Nat):(L.drop off).take (a+b)=(L.drop off).take a++(L.drop (off+a)).take b:=by
 rw[List.take_add,JA]
theorem zza:∀s:Sh,
  ((∀(t:TypeId) (fuel:Nat) (L:List Value) (x:DataW H×List MemPlace),(s.fit P).1 t=true->DataW.trod enc P W 0 (λ_=>true) held fuel t L=some x->
   P.cellsOf t=s.n/\L.length=s.n/\∃y:s.T,s.wf y/\∀S:Nat->Prop,(∀b,¬S b)->Dc S W (s.enc y) L))/\
  (∀(gs:List Field) (off m:Nat) (L:List Value),(s.fit P).2.1 gs off=true->(∀g∈gs,∃x,DataW.trod enc P W 0 (λ_=>true) held m g.type ((L.drop g.offset).take (P.cellsOf g.type))=some x)->
   ∃y:s.T,s.wf y/\∀S:Nat->Prop,(∀b,¬S b)->Dc S W (s.enc y) ((L.drop off).take s.n))/\
  (∀(n i m:Nat) (u:TypeId) (L:List Value),(s.fit P).2.2 n u=true->(∀j,j < n->∃x,DataW.trod enc P W 0 (λ_=>true) held m u ((L.drop ((i+j)*P.cellsOf u)).take (P.cellsOf u))=some x)->
   ∃y:s.T,s.wf y/\∀S:Nat->Prop,(∀b,¬S b)->Dc S W (s.enc y) ((L.drop (i*P.cellsOf u)).take s.n)):=by
 intro s
 induction s with
 | int k=>
  refine⟨λt fuel L x hf h=>?_,λ_ _ _ _ hf _=>(by cases hf),λ_ _ _ _ _ hf _=>(by cases hf)⟩;unfold Sh.fit at hf;dsimp only at hf
  split at hf
  ·rename_i k' hk;simp only[Xx]at hf;obtain⟨hk',hc⟩:=hf;have hk':=zfA hk';subst hk';obtain⟨q,rfl,_,hw⟩:=DataW.trod_int hk h;exact⟨Xf hc,rfl,q,hw,λS _=>.one (.val _) rfl⟩
  ·cases hf
 | bool=>
  refine⟨λt fuel L x hf h=>?_,λ_ _ _ _ hf _=>(by cases hf),λ_ _ _ _ _ hf _=>(by cases hf)⟩;unfold Sh.fit at hf;dsimp only at hf
  split at hf
  ·rename_i hk;obtain⟨b,rfl,_⟩:=DataW.trod_bool hk h;refine⟨Xf hf,rfl,b,trivial,λS _=>.one ?_ rfl⟩;have:=D.pr (S:=S) (w:=W) (b=true) inferInstance
   rwa [show decide (b=true)=b by cases b <;> rfl]at this
  ·cases hf
 | sl e ih=>
  refine⟨λt fuel L x hf h=>?_,λ_ _ _ _ hf _=>(by cases hf),λ_ _ _ _ _ hf _=>(by cases hf)⟩;unfold Sh.fit at hf;dsimp only at hf
  split at hf
  ·rename_i u hk;simp only[Xx]at hf;obtain⟨⟨he,hc⟩,hpos⟩:=hf;have hpos:0 < e.n:=by simpa using hpos
   refine⟨Xf hc,?_⟩
   rcases open_slice hk h with⟨rfl,_⟩ | ⟨a,len,cap,m,n,Df,Pl,rfl,_,hl,hm,hmm,_,hi⟩
   ·exact⟨rfl,([]:List e.T),λx hx=>(by cases hx),λS _=>.one (.nil _ _) rfl⟩
   have hmc:m=cap:=by simpa using hmm
   subst hmc;refine⟨rfl,?_⟩
   have key:∀i,i < m->∃cs',P.cellsOf u=e.n/\W.cells? 0 (a.add (i*e.n)) e.n=some cs'/\∃y:e.T,e.wf y/\∀S:Nat->Prop,(∀b,¬S b)->Dc S W (e.enc y) cs':=λi hi'=>by
    obtain⟨cs',h1,h2⟩:=hi i hi';obtain⟨g1,g2,g3⟩:=ih.1 u n cs' _ he h2;rw[g1]at h1;exact⟨cs',g1,h1,g3⟩
   by_cases h0:m=0
   ·subst h0;have:len=0:=oM;subst this;exact⟨([]:List e.T),λx hx=>(by cases hx),λS _=>.one (.nil _ _) rfl⟩
   have hspot:a.spot=none/\a.block < W.heap.size:=by
    obtain⟨cs',_,h1,_⟩:=key 0 oM;obtain⟨_,_,hat⟩:=World.cells?_some h1;have h2:=hat 0 hpos;have hlen:cs'.length=e.n:=by obtain⟨_,hl,_⟩:=World.cells?_some h1;exact hl
    rw[Xb oM,QI]at h2;have:(a.add 0).add 0=a:=by unfold Addr.add;simp
    rw[this]at h2;unfold World.cell? at h2
    split at h2
    ·rename_i hb
     split at h2
     ·cases h2
     ·rename_i hs;refine⟨by simpa using hs,(XZ.1 hb).1⟩
    ·cases h2
   obtain⟨b,o,sp⟩:=a;obtain⟨hs,hb⟩:=hspot;have hs:sp=none:=hs;subst hs
   haveI:Inhabited e.T:=⟨e.dflt⟩
   obtain⟨F,hF⟩:=choose_lt (α:=e.T) (n:=m) (p:=λi y=>∃cs',W.cells? 0 (Addr.add ⟨b,o,none⟩ (i*e.n)) e.n=some cs'/\e.wf y/\∀S:Nat->Prop,(∀b,¬S b)->Dc S W (e.enc y) cs') (λi hi'=>by
    obtain⟨cs',_,h1,y,hy,hd⟩:=key i hi'
    exact⟨y,cs',h1,hy,hd⟩)
   refine⟨(List.range len).map F,λx hx=>?_,λS hS=>.one ?_ rfl⟩
   ·obtain⟨i,hi',rfl⟩:=XY.1 hx;obtain⟨_,_,hw,_⟩:=hF i (by have:=Kh.1 hi';omega);exact hw
   ·have at1:∀i j,i < m->j < e.n->∃v,W.cell? ⟨b,o+i*e.n+j,none⟩=some v/\v.oneCell'=true/\∀s,(e.enc (F i))[j]? =some s->D S W s v:=λi j hi' hj=>by
     obtain⟨cs',h1,_,hd⟩:=hF i hi';obtain⟨_,hlen,hat⟩:=World.cells?_some h1;have h2:=hat j hj;rw[Xb oM,add_add]at h2;have e1:Addr.add ⟨b,o,none⟩ (i*e.n+j)=⟨b,o+i*e.n+j,none⟩:=by rw[yd,← KJ]
     rw[e1]at h2;have hd:=hd S hS;have hjl:j < (e.enc (F i)).length:=by rw[Sh.enc_len];exact hj
     have:=hd.2 j _ _ (Xb hjl) (Xb (show j < cs'.length by omega));refine⟨_,h2,this.2,λs hs=>?_⟩;exact(hd.2 j s _ hs (Xb (show j < cs'.length by omega))).1
    have hsl:=D.sl (S:=S) (w:=W) e.enc ((List.range len).map F) e.n b o m (λi j=>(W.cell? ⟨b,o+i*e.n+j,none⟩).getD undef) hb (hS b) (by simp;unfold maxLen at hm;omega) (by simpa using hl) (λx _=>Sh.enc_len e x) (λi j hi' hj=>by
     obtain⟨v,h1,h2,_⟩:=at1 i j (by simp at hi';omega) hj
     rw[h1];exact⟨rfl,h2⟩) (λi j x s hx hs=>by
     have hi':i < len:=by have:=(Xc.1 hx).1;simpa using this
     simp only[XA,Qq hi',K2,Qn]at hx;subst hx;have hj:j < e.n:=by have:=(Xc.1 hs).1;rw[Sh.enc_len]at this;exact this
     obtain⟨v,h1,_,h3⟩:=at1 i j oM hj
     rw[h1];exact h3 s hs)
    simpa using hsl
  ·cases hf
 | st fs ih=>
  refine⟨λt fuel L x hf h=>?_,λ_ _ _ _ hf _=>(by cases hf),λ_ _ _ _ _ hf _=>(by cases hf)⟩;unfold Sh.fit at hf;dsimp only at hf
  split at hf
  ·rename_i gs hk;simp only[Xx]at hf;obtain⟨hg,hc⟩:=hf;have hc:=Xf hc;obtain⟨xs,m,_,_,hl,hxl,hfl⟩:=DataW.trod_struct hk h
   obtain⟨y,hy,hd⟩:=ih.2.1 gs.toList 0 m L hg (λg hg'=>by
    obtain⟨i,hi,rfl⟩:=Kg hg';have hi':i < gs.size:=by simpa using hi
    have:=hfl i gs[i] (by simp[hi'])
    exact⟨xs[i]'oM,by simpa[Xb (show i < xs.length by omega)] using this⟩)
   refine⟨hc,hl.trans hc,y,hy,λS hS=>?_⟩;have:=hd S hS;rw[KR,Xg (by show L.length<=fs.n;omega)]at this;exact this
  ·cases hf
 | ar es ih=>
  refine⟨λt fuel L x hf h=>?_,λ_ _ _ _ hf _=>(by cases hf),λ_ _ _ _ _ hf _=>(by cases hf)⟩;unfold Sh.fit at hf;dsimp only at hf
  split at hf
  ·rename_i n u hk;simp only[Xx]at hf;obtain⟨hg,hc⟩:=hf;have hc:=Xf hc;obtain⟨xs,m,_,_,hl,hxl,hfl⟩:=DataW.trod_array hk h
   obtain⟨y,hy,hd⟩:=ih.2.2 n 0 m u L hg (λj hj=>by
    have:=hfl j hj
    exact⟨xs[j]'oM,by rw[X6,this,Xb (show j < xs.length by omega)]⟩)
   refine⟨hc,hl.trans hc,y,hy,λS hS=>?_⟩;have:=hd S hS;rw[QI,KR,Xg (by show L.length<=es.n;omega)]at this;exact this
  ·cases hf
 | nil=>
  refine⟨λt fuel L x hf h=>(by cases hf),λgs off m L hf _=>⟨(),trivial,λS _=>?_⟩,λn i m u L hf _=>⟨(),trivial,λS _=>?_⟩⟩
  ·show Dc S W [] ((L.drop off).take 0);rw[Yg];exact .nil
  ·show Dc S W [] ((L.drop _).take 0);rw[Yg];exact .nil
 | cons f r ihf ihr=>
  refine⟨λt fuel L x hf h=>(by cases hf),λgs off m L hf hx=>?_,λn i m u L hf hx=>?_⟩
  ·unfold Sh.fit at hf;dsimp only at hf
   split at hf
   ·cases hf
   ·rename_i g gs;simp only[Xx]at hf;obtain⟨⟨ho,h1⟩,h2⟩:=hf;have ho:=Xf ho;subst ho;obtain⟨x,hx0⟩:=hx g (List.mem_cons_self ..);obtain⟨g1,g2,y,hy,hd⟩:=ihf.1 g.type m _ x h1 hx0;obtain⟨z,hz,he⟩:=ihr.2.1 gs (g.offset+f.n) m L h2 (λg' hg'=>hx g' (List.mem_cons_of_mem _ hg'));refine⟨(y,z),⟨hy,hz⟩,λS hS=>?_⟩;show Dc S W (f.enc y++r.enc z) ((L.drop g.offset).take (f.n+r.n));rw[zki];have:=hd S hS;rw[g1]at this;exact this.append (he S hS)
  ·unfold Sh.fit at hf;dsimp only at hf
   split at hf
   ·cases hf
   ·rename_i n;simp only[Xx]at hf;obtain⟨h1,h2⟩:=hf;obtain⟨x,hx0⟩:=hx 0 oM;obtain⟨g1,g2,y,hy,hd⟩:=ihf.1 u m _ x h1 hx0
    obtain⟨z,hz,he⟩:=ihr.2.2 n (i+1) m u L h2 (λj hj=>by
     have:=hx (j+1) oM
     rwa [show i+(j+1)=i+1+j by omega]at this)
    refine⟨(y,z),⟨hy,hz⟩,λS hS=>?_⟩;show Dc S W (f.enc y++r.enc z) ((L.drop (i*P.cellsOf u)).take (f.n+r.n));rw[zki];have:=hd S hS;rw[XN,g1]at this;have he:=he S hS;rw[g1,XW,Yh]at he;rw[g1];exact this.append he
end
def LEd(s r:SV):Prop:=∀(S:Nat->Prop) (w:World) (v:Value),D S w s v->D S w r v
inductive jq:List SV->List SV->Prop
 | nil:jq [] []
 | cons {a b:SV} {us bs:List SV} (h:LEd a b) (t:jq us bs):jq (a::us) (b::bs)
theorem LEd.refl{s:SV}:LEd s s:=λ_ _ _ h=>h
theorem jq.refl:∀{us:List SV},jq us us
 | []=>.nil
 | _::_=>.cons .refl .refl
theorem jq.append{us bs cs ds:List SV}(h:jq us bs)(k:jq cs ds):jq (us++cs) (bs++ds):=by
 induction h with
 | nil=>exact k
 | cons h _ ih=>exact .cons h ih
theorem jq.ix{us bs:List SV}(h:jq us bs):us.length=bs.length/\∀(j:Nat) (s r:SV),us[j]? =some s->bs[j]? =some r->LEd s r:=by
 induction h with
 | nil=>exact⟨rfl,λj s r h=>by simp at h⟩
 | cons h t ih=>
  refine⟨by simp[ih.1],λj s r hs hr=>?_⟩
  cases j with
  | zero=>simp at hs hr;subst hs;subst hr;exact h
  | succ j=>exact ih.2 j s r (by simpa using hs) (by simpa using hr)
theorem LEd.sl{α β:Type}{e:α->List SV}{g:β->List SV}(f:α->β){xs:List α}(he:∀x∈xs,jq (e x) (g (f x))):LEd (.sl e xs) (.sl g (xs.map f)):=λS w v h=>by
 cases h with
 | nil _ a=>exact .nil g a
 | sl _ _ sz b o cap c hb hS hlen hcap hsz hc h=>
  have:=D.sl (S:=S) (w:=w) g (xs.map f) sz b o cap c hb hS (by simpa using hlen) (by simpa using hcap) (λy hy=>by
   obtain⟨x,hx,rfl⟩:=XY.1 hy
   rw[← (he x hx).ix.1];exact hsz x hx) (λi j hi hj=>hc i j (by simpa using hi) hj) (λi j y s hy hs=>by
   rw[XA]at hy
   cases hx:xs[i]? with
   | none=>simp[hx]at hy
   | some x=>
    simp[hx]at hy;subst hy;have he:=he x (Xd hx);have hj:j < (e x).length:=by rw[he.ix.1];exact(Xc.1 hs).1
    have hs0:=Xb hj
    exact he.ix.2 j _ s hs0 hs _ _ _ (h i j x _ hx hs0))
  simpa using this
theorem zxm{α β:Type}{e:α->List SV}{g:β->List SV}(f:α->β){xs:List α}(he:∀x∈xs,jq (e x) (g (f x))):LE (.sl e xs) (.sl g (xs.map f)):=λ_ _ _ _ _ hg=>.d _ _ (LEd.sl f he _ _ _ hg.sl_inv)
theorem jq.gs{us bs:List SV}(h:jq us bs){S Pm:Nat->Prop}{ρ:zj}{w:World}{vs:List Value}(hd:vs.length=us.length/\∀(j:Nat) (s:SV) (v:Value),us[j]? =some s->vs[j]? =some v->D S w s v):Gs S Pm ρ w bs vs:=
 ⟨hd.1.trans h.ix.1,λj r v hr hv=>by
  have hj:j < us.length:=by rw[h.ix.1];exact(Xc.1 hr).1
  have hs:=Xb hj
  exact .d _ _ (h.ix.2 j _ r hs hr _ _ _ (hd.2 j _ v hs hv))⟩
section
variable {H:Type} {enc:TypeId×Value->H} {P:Program} {W:World} {held:Bool}
theorem zun {b0:Nat} {t:TypeId} {v:Value} {d:DataW H} {p:List MemPlace} (s:Sh) (hf:(s.fit P).1 t=true) (ha:(match P.underlying t with | some (.struct _)=>true | some (.array _ _)=>true | _=>false)=true)
  (hv:Value.okWide P W .any b0 t v) (h:DataW.Trod enc P W 0 (λ_=>true) held t v d p):
  ∃y:s.T,s.wf y/\∀(g:List SV),jq (s.enc y) g->∀(S Pm:Nat->Prop) (ρ:zj),(∀b,¬S b)->G S Pm ρ W (.agg g) v:=by
 obtain⟨fuel,hx⟩:=h;obtain⟨_,_,y,hy,hd⟩:=(zza s).1 t fuel _ _ hf hx
 have:∃cs,v=.agg cs:=by
  unfold Value.okWide at hv
  split at ha
  ·rename_i h1;rw[h1]at hv;obtain⟨cs,rfl,_⟩:=hv;exact⟨cs,rfl⟩
  ·rename_i h1;rw[h1]at hv;obtain⟨cs,rfl,_⟩:=hv;exact⟨cs,rfl⟩
  ·cases ha
 obtain⟨cs,rfl⟩:=this;refine⟨y,hy,λg hg S Pm ρ hS=>?_⟩;have hd1:=hd S hS;have g1:=hg.gs (Pm:=Pm) (ρ:=ρ) ⟨hd1.1,λj s v hs hv=>(hd1.2 j s v hs hv).1⟩;have:=G.agg (S:=S) (Pm:=Pm) (ρ:=ρ) (w:=W) _ _ g1.1 g1.2
 rwa [show(Value.agg cs).cells.toList.toArray=cs from Array.toArray_toList]at this
end
open Go.Proofs
inductive Pw
 | d (q:Pl)
 | c (r:List Pt)
def pwE:Pw->List SV
 | .d q=>plE q
 | .c r=>[.sl ptE r,.val (.bool false)]
def pwP:Pw->Pl
 | .d q=>q
 | .c r=>⟨r,false⟩
theorem zuo{q:Prop}{j:Decidable q}(h:¬q):LEd (.val (.bool false)) (.pr q j):=λS w v hd=>by
 cases hd
 have:=D.pr (S:=S) (w:=w) q j
 simpa[h] using this
theorem LE_pw(l:List Pw):LE (.sl pwE l) (.sl plE (l.map pwP)):=zxm pwP λx _=>by
 cases x with
 | d q=>exact .refl
 | c r=>exact .cons .refl (.cons (zuo (show ¬(false=true) by decide)) .nil)
def zl8(p:Pl)(q:Nat×Nat):Pw:=if p.cl=true/\q.1=0/\(q.2:Int)=zK p then .d (zu p) else .c (vh (ze p) q.1 q.2)
theorem zzb(p:Pl)(q:Nat×Nat):pwP (zl8 p q)=j9 p q:=by
 unfold zl8 j9
 split <;> rfl
theorem zup(p:Pl)(l:List (Nat×Nat)):(l.map (zl8 p)).map pwP=l.map (j9 p):=by
 rw[List.map_map];exact List.map_congr_left λq _=>zzb p q
theorem zh2{pen:Pen}{long:Int}:∀q∈kT pen long,q.1 < q.2/\(q.2:Int)<=long/\1<=long:=by
 intro q hq;unfold kT at hq
 split at hq
 ·cases hq
 ·rename_i h;have h1:¬long < 1:=λk=>h (.inr (.inl k))
  split at hq
  ·have:=Xr.1 hq;subst this;dsimp only;omega
  ·have:=zjY q hq;omega
theorem zfm(p:Pl)(hp:p.pts.length<=4096):0<=zK p/\zK p<=17596481011712:=by
 have h:=vQ (ze p) ((ze p).length - 1);have h1:=jH (zu p);have h2:=ju p;rw[← yL]at h1;unfold zK;omega
theorem zpY{p:Pl}(h:1<=zK p):2<=(ze p).length:=by
 refine QH λk=>?_
 have:=zpp (p:=p) oM;omega
theorem zev{p:Pl}{pen:Pen}{q:Nat×Nat}(hp:p.pts.length<=4096)(h:q∈kT pen (zK p)):0 < (j9 p q).pts.length/\(j9 p q).pts.length<=4100:=by
 obtain⟨_,_,h1⟩:=zh2 q h;have h2:=zpY h1;have ll:=jH (zu p);have dl:=ju p;rw[← yL]at ll;unfold j9
 split
 ·rename_i k
  have:(zu p).pts.length≠0:=λe=>by
   have:=zbr (q:=zu p) oM;rw[← yL]at this;omega
  omega
 ·have:=znG (ze p) q.1 q.2;dsimp only;omega
theorem zgt(a b:List Pl):jI (a++b)=jI a+jI b:=by unfold jI;simp
theorem zew:∀{l:List Pl},(∀x∈l,0 < x.pts.length)->l.length<=jI l
 | [],_=>Xe _
 | x::r,h=>by
  have h1:=h x (.head _);have h2:=zew (l:=r) λy hy=>h y (.tail _ hy)
  have e:jI (x::r)=x.pts.length+jI r:=by unfold jI;simp
  rw[e,Xl];omega
def zfn(p:Pl)(pen:Pen)(j:Nat):Nat:=jI (((kT pen (zK p)).take j).map (j9 p))
theorem zuq{p:Pl}{pen:Pen}{j:Nat}{y:Nat×Nat}(h:(kT pen (zK p))[j]? =some y):zfn p pen (j+1)=zfn p pen j+(j9 p y).pts.length:=by
 unfold zfn;rw[Xm,h,XI,zgt];show _+jI [j9 p y]=_;unfold jI;simp
theorem zzc(p:Pl)(pen:Pen)(j:Nat):zfn p pen j<=jI ((kT pen (zK p)).map (j9 p)):=by
 have e:(kT pen (zK p)).map (j9 p)=((kT pen (zK p)).take j).map (j9 p)++((kT pen (zK p)).drop j).map (j9 p):=by
  rw[← XI,Kf]
 rw[e,zgt];exact Jd _ _
theorem zzd{p:Pl}{pen:Pen}(hp:p.pts.length<=4096)(j:Nat):((kT pen (zK p)).take j).length<=zfn p pen j:=by
 have:=zew (l:=((kT pen (zK p)).take j).map (j9 p)) λx hx=>by
  obtain⟨q,hq,rfl⟩:=XY.1 hx;exact(zev hp (XC hq)).1
 rwa [XF]at this
def dM(p:Pl)(pen:Pen)(j:Nat):List (Nat×Mem):=
 [(0,.box 118 [.sl ptE p.pts,pr (p.cl=true)]),(1,.box 111 [.val (.slice none 0 0)]),(2,.box 61 [i64 0]),(3,.box 205 (meE (meQ (zu p)))),
  (4,.box 111 [.own 6]),(5,.box 3 [i64 (zfn p pen j:Int)]),(6,.arr 118 pwE 2 (((kT pen (zK p)).take j).map (zl8 p)))]
def dB(p:Pl):List (Nat×Mem):=
 [(0,.box 118 [.sl ptE p.pts,pr (p.cl=true)]),(1,.box 111 [.val (.slice none 0 0)]),(2,.box 61 [i64 0]),(3,.box 205 (meE (meQ (zu p)))),
  (4,.box 111 [.sl ptE (List.replicate 9223372036854775808 zp)]),(5,.box 3 [i64 4097])]
def dS(p:Pl)(pen:Pen)(j:Nat):List (Nat×Mem):=if zfn p pen j<=4096 then dM p pen j else dB p
theorem zze{S Pm:Nat->Prop}{ρ:zj}{w:World}{v:Value}:¬G S Pm ρ w (.sl ptE (List.replicate 9223372036854775808 zp)) v:=λhg=>by
 have key:∀{xs:List Pt} {u:Value},D S w (.sl ptE xs) u->xs.length<=9223372036854775807:=λhd=>by
  cases hd with
  | nil=>decide
  | sl _ _ sz b o cap c hb hS hlen=>exact hlen
 have:=key hg.sl_inv;rw[Ke]at this;omega
theorem zzf{a s:SV}:LE (.tup [.sl ptE (List.replicate 9223372036854775808 zp),a]) s:=λS Pm ρ w v hg=>by
 cases hg with
 | d _ _ hd=>cases hd
 | tup cs vs hl h=>
  obtain⟨u,hu⟩:∃u,vs[0]? =some u:=⟨_,Xb (by rw[hl];exact Nat.succ_pos 1)⟩;exact absurd (h 0 _ u rfl hu) zze
theorem dS_pf(p:Pl)(pen:Pen)(j:Nat):zj6 (dS p pen j):=by
 unfold dS
 split
 ·intro k m hm;unfold dM at hm;simp only[Kn,Kw,or_false,K5]at hm
  rcases hm with⟨_,rfl⟩ | ⟨_,rfl⟩ | ⟨_,rfl⟩ | ⟨_,rfl⟩ | ⟨_,rfl⟩ | ⟨_,rfl⟩ | ⟨_,rfl⟩
  all_goals first | rfl | trivial
 ·intro k m hm;unfold dB at hm;simp only[Kn,Kw,or_false,K5]at hm
  rcases hm with⟨_,rfl⟩ | ⟨_,rfl⟩ | ⟨_,rfl⟩ | ⟨_,rfl⟩ | ⟨_,rfl⟩ | ⟨_,rfl⟩
  all_goals first | rfl | trivial
theorem zxn(p:Pl)(pen:Pen)(hp:p.pts.length<=4096):CG0 121 [.agg (plE p),.agg (ji pen)] [] (znw (jy p pen)) []:=by
 refine zdE 3 tok mix Tryz.func121 rfl rfl rfl ?_
 have es:jy p pen=if ¬kF pen then([],13) else if ¬∀q∈p.pts,zr q then([],6) else if 4096 < p.pts.length then([],5)
  else if pen.d=[] then([zu p],0) else if 4096 < jI ((kT pen (zK p)).map (j9 p)) then([],5) else((kT pen (zK p)).map (j9 p),0):=rfl
 refine zb.t (zej pen)<|⟨λk=>?_,λk=>?_⟩
 ·have k:¬kF pen:=k;exact jt (by rw[es,if_pos k])
 have k:kF pen:=Xa.1 k;rw[kS k]at es
 by_cases ok:∀q∈p.pts,zr q
 rotate_left
 ·refine zb.t (zl5 p hp)<|⟨λ_=>?_,λh=>absurd (Xa.1 h) ok⟩;exact jt (by rw[es,if_pos ok])
 rw[kS ok,if_neg (show ¬4096 < p.pts.length by omega)]at es;have hM:=zl5 p hp;rw[zy9 ok]at hM;refine zb.t hM<|Br.mk (λh=>absurd ok h) (λ_=>?_);intro hl1;refine⟨λh=>absurd (show(4096:Int) < p.pts.length from h) oM,λ_=>?_⟩;intro hl2;refine⟨λz=>?_,λz=>?_⟩
 ·have z:(pen.d.length:Int)=0:=z;have z:pen.d=[]:=Xn oM;refine zb.t (zgn p hp)<|⟨Pl,plE,[zu p],rfl,Ob.o0 ?_⟩;rw[es,if_pos z];exact .refl
 have z:¬(pen.d.length:Int)=0:=z;rw[if_neg (λh=>z (by rw[h];rfl))]at es;have lr:=zfm p hp;refine zb.t (p_on pen (zK p))<|⟨Nat×Nat,runE,kT pen (zK p),6,[(2,.loc 0 0),(4,.loc 1 0),(5,.loc 2 0),(6,.loc 3 0),(8,.loc 4 0),(9,.loc 5 0)],dS p pen,λ_=>7,zy8 pen (zK p) oM,λ_=>rfl,⟨rfl,rfl,rfl,rfl⟩,?_,⟨Xe _,rfl⟩,dS_pf p pen,?_,?_⟩
 ·rw[show dS p pen 0=dM p pen 0 from if_pos (Xe _)];exact zE [(0,some 0),(1,some 2),(2,some 3),(3,some 4),(4,some 5),(5,some 6),(6,none)]
 ·intro j y hy;have hm:=Xd hy;obtain⟨y1,y2,y3⟩:=zh2 y hm;have cs:=zuq hy;have cle:=zzc p pen (j+1);have dp:=zev hp hm;have bad:4096 < zfn p pen (j+1)->jy p pen=([],5):=λh=>by rw[es,if_pos oM]
  have dl:=ju p;have ll:=jH (zu p);rw[← yL]at ll;have l2:=zpY y3;have w1:p.cl=true->(y.1:Int)=0->(y.2:Int)=zK p->zl8 p y=.d (zu p)/\(j9 p y).pts=(zu p).pts:=λa b c=>⟨if_pos ⟨a,oM,c⟩,congrArg Pl.pts (if_pos ⟨a,oM,c⟩)⟩
  have w2:¬(p.cl=true/\(y.1:Int)=0/\(y.2:Int)=zK p)->zl8 p y=.c (vh (ze p) y.1 y.2)/\(j9 p y).pts=vh (ze p) y.1 y.2:=λh=>
   ⟨if_neg λk=>h ⟨k.1,oM,k.2.2⟩,congrArg Pl.pts (if_neg λk=>h ⟨k.1,oM,k.2.2⟩)⟩
  by_cases hc:zfn p pen j<=4096
  ·rw[show dS p pen j=dM p pen j from if_pos hc];have cg:=zzd (pen:=pen) hp j;refine⟨λc=>Br.mk (λc1=>Br.mk (λc2=>?_) (λc2=>?_)) (λc1=>?_),λc=>?_⟩
   ·obtain⟨e1,e2⟩:=w1 c c1 c2;rw[e2]at cs dp;refine zb.t (zgn p hp) ?_;intro hl3;refine Ar.o<|Br.mk (λo=>?_) (λo=>?_)
    ·have o:(4096:Int) < (zfn p pen j:Int)+((zu p).pts.length:Int):=o;refine⟨[(1,.box 111 [.val (.slice none 0 0)]),(2,.box 61 [i64 5])],6,zf [0,1,2,3,4,5],λk m hm=>?_,jt (bad oM)⟩;simp only[Kn,Kw,or_false,K5]at hm
     rcases hm with⟨_,rfl⟩ | ⟨_,rfl⟩ <;> rfl
    ·have o:¬(4096:Int) < (zfn p pen j:Int)+((zu p).pts.length:Int):=o;refine⟨Pw,pwE,[.d (zu p)],rfl,Ob.o10 ?_⟩;refine⟨[.d (zu p)],rfl,Ob.o25 ?_⟩;rw[show dS p pen (j+1)=dM p pen (j+1) from if_pos oM];refine zC [0,1,2,3,4,5,9] ⟨rfl,rfl,rfl,rfl,rfl,congrArg (λn=>some (Mem.box 3 [i64 n])) oM,congrArg (λq=>some (Mem.arr 118 pwE 2 q)) ?_,trivial⟩;rw[Xm,hy,XI,← e1];rfl
   all_goals
    have hno:¬(p.cl=true/\(y.1:Int)=0/\(y.2:Int)=zK p):=by
     first
     | exact λh=>c2 h.2.2
     | exact λh=>c1 h.2.1
     | exact λh=>c h.1
    obtain⟨e1,e2⟩:=w2 hno;rw[e2]at cs dp;have hcut:CG0 188 [.agg (meE (meQ (zu p))),i64 (y.1:Int),i64 (y.2:Int)] [] (.sl ptE (vh (ze p) y.1 y.2)) []:=zAg (zu p) y.1 y.2 oM l2 ⟨oM,oM⟩ ⟨oM,oM⟩;refine zb.t hcut ?_;intro hl3;refine Ar.o<|Br.mk (λo=>?_) (λo=>?_)
    ·have o:(4096:Int) < (zfn p pen j:Int)+((vh (ze p) y.1 y.2).length:Int):=o;refine⟨[(1,.box 111 [.val (.slice none 0 0)]),(2,.box 61 [i64 5])],6,zf [0,1,2,3,4,5],λk m hm=>?_,jt (bad oM)⟩;simp only[Kn,Kw,or_false,K5]at hm
     rcases hm with⟨_,rfl⟩ | ⟨_,rfl⟩ <;> rfl
    ·have o:¬(4096:Int) < (zfn p pen j:Int)+((vh (ze p) y.1 y.2).length:Int):=o;refine⟨Pw,pwE,[.c (vh (ze p) y.1 y.2)],rfl,Ob.o10 ?_⟩;refine⟨[.c (vh (ze p) y.1 y.2)],rfl,Ob.o25 ?_⟩;rw[show dS p pen (j+1)=dM p pen (j+1) from if_pos oM];refine zC [0,1,2,3,4,5,9] ⟨rfl,rfl,rfl,rfl,rfl,congrArg (λn=>some (Mem.box 3 [i64 n])) oM,congrArg (λq=>some (Mem.arr 118 pwE 2 q)) ?_,trivial⟩;rw[Xm,hy,XI,← e1];rfl
  ·rw[show dS p pen j=dB p from if_neg hc];refine⟨λc=>Br.mk (λc1=>Br.mk (λc2=>?_) (λc2=>?_)) (λc1=>?_),λc=>?_⟩
   ·obtain⟨e1,e2⟩:=w1 c c1 c2;rw[e2]at cs dp;refine zb.t (zgn p hp) ?_;intro hl3;refine Ar.o<|Br.mk (λo=>?_) (λo=>absurd (show(4096:Int) < 4097+((zu p).pts.length:Int) by omega) o);refine⟨[(1,.box 111 [.val (.slice none 0 0)]),(2,.box 61 [i64 5])],6,zf [0,1,2,3,4,5],λk m hm=>?_,jt (bad oM)⟩;simp only[Kn,Kw,or_false,K5]at hm
    rcases hm with⟨_,rfl⟩ | ⟨_,rfl⟩ <;> rfl
   all_goals
    have hno:¬(p.cl=true/\(y.1:Int)=0/\(y.2:Int)=zK p):=by
     first
     | exact λh=>c2 h.2.2
     | exact λh=>c1 h.2.1
     | exact λh=>c h.1
    obtain⟨e1,e2⟩:=w2 hno;rw[e2]at cs dp;have hcut:CG0 188 [.agg (meE (meQ (zu p))),i64 (y.1:Int),i64 (y.2:Int)] [] (.sl ptE (vh (ze p) y.1 y.2)) []:=zAg (zu p) y.1 y.2 oM l2 ⟨oM,oM⟩ ⟨oM,oM⟩;refine zb.t hcut ?_;intro hl3;refine Ar.o<|Br.mk (λo=>?_) (λo=>absurd (show(4096:Int) < 4097+((vh (ze p) y.1 y.2).length:Int) by omega) o);refine⟨[(1,.box 111 [.val (.slice none 0 0)]),(2,.box 61 [i64 5])],6,zf [0,1,2,3,4,5],λk m hm=>?_,jt (bad oM)⟩;simp only[Kn,Kw,or_false,K5]at hm
    rcases hm with⟨_,rfl⟩ | ⟨_,rfl⟩ <;> rfl
 ·by_cases hc:zfn p pen (kT pen (zK p)).length<=4096
  ·rw[show dS p pen (kT pen (zK p)).length=dM p pen (kT pen (zK p)).length from if_pos hc];have et:(kT pen (zK p)).take (kT pen (zK p)).length=kT pen (zK p):=X9;unfold zfn at hc;rw[et]at hc;rw[es,if_neg oM];refine zI ((LE_pw _).trans (z9 ?_)) .refl;rw[zup,et]
  ·rw[show dS p pen (kT pen (zK p)).length=dB p from if_neg hc];exact zzf
theorem zsR(l:List Pt):CG0 128 [.sl ptE l] [] (pr (∀p∈l,zr p)) []:=by
 refine zc Tryz.func128 ?_;refine⟨Nat,λi=>⟨[(0,.sl ptE l),(3,i64 (i:Int))],[],0,16,0⟩,λi=>i<=l.length/\∀p∈l.take i,zr p,λi=>l.length - i,0,?_,?_,?_⟩
 ·exact⟨Xe _,λp hp=>by cases hp⟩
 ·exact zE []
 rintro i ⟨h1,h2⟩
 intro hl1;refine⟨λg=>?_,λg=>?_⟩
 ·have g:(i:Int) < l.length:=g;refine Ob.o ?_;intro x hx;have hx:l[i]? =some x:=hx;refine zb.t (kH x)<|⟨λb=>zd λk=>b (k x (Xd hx)),λb=>?_⟩;have b:=Xa.1 b;refine Ar.o<|⟨i+1,⟨oM,λp hp=>?_⟩,zE [],by dsimp only;omega⟩;rw[Xm,hx]at hp
  rcases Xo.1 hp with hp | hp
  ·exact h2 p hp
  ·simp at hp;rw[hp];exact b
 ·have g:¬(i:Int) < l.length:=g;rw[Xg oM]at h2;exact zT h2
theorem zsS(a b:Pt):CG0 193 [.agg (ptE a),.agg (ptE b)] [] (i64 (zO a b)) []:=by
 refine zc Tryz.func193 ?_;exact zb.t (zsq b a)<|zb.t (zwk (zcv b a))<|.refl
theorem zxo(p:Pl)(hp:p.pts.length<=4096):CG0 192 [.agg (plE p)] [] (.sl ptE (ze p)) []:=by
 refine zc Tryz.func192 ?_;have dl:=ju p;refine zb.t (ziz p hp)<|⟨Pt,ptE,[],rfl,Ob.o2 ?_⟩;refine⟨Nat,λi=>⟨[(3,.loc 0 0),(4,.own 1),(5,i64 (i:Int))],[(0,.box 118 (plE (zu p))),(1,.arr 35 ptE 2 ((zu p).pts.take i))],2,40,0⟩,λi=>i<=(zu p).pts.length,λi=>(zu p).pts.length - i,0,?_,?_,?_⟩
 ·exact Xe _
 ·exact zf [1,2]
 rintro i hi
 intro hl1;refine⟨λg=>?_,λg=>?_⟩
 ·have g:(i:Int) < (zu p).pts.length:=g;refine Ob.o ?_;intro x hx;have hx:(zu p).pts[i]? =some x:=hx;refine⟨Pt,ptE,[x],rfl,Ob.o0 ?_⟩;refine⟨[x],rfl,Ob.o16 ?_⟩;exact Ar.o<|⟨i+1,oM,zC [0,3] ⟨rfl,congrArg (λq=>some (Mem.arr 35 ptE 2 q)) (by rw[Xm,hx];rfl),trivial⟩,by dsimp only;omega⟩
 have g:¬(i:Int) < (zu p).pts.length:=g;have et:(zu p).pts.take i=(zu p).pts:=Xg oM;have no:¬((zu p).cl=true/\2<=(zu p).pts.length)->LE (.sl ptE ((zu p).pts.take i)) (.sl ptE (ze p)):=λh=>z9 (by rw[et,yL,znC h])
 refine⟨λc=>?_,λc=>no λh=>c h.1⟩;have c:(zu p).cl=true:=c;intro hl2;refine⟨λn2=>?_,λn2=>no λh=>n2 (show(2:Int)<=(zu p).pts.length by have:=h.2;omega)⟩;have n2:(2:Int)<=(zu p).pts.length:=n2;refine Ob.o ?_;intro x hx;have hx:=qt (show(zu p).pts[0]? =some x from hx);refine⟨Pt,ptE,[x],rfl,Ob.o0 ?_⟩;refine⟨[x],rfl,Ob.o16 ?_⟩;exact z9 (by rw[et,yL,zgr c oM,hx])
theorem zpZ(p:Pl)(hp:p.pts.length<=4096)(ok:∀q∈p.pts,zr q):CG0 129 [.agg (plE p)] [] (i64 (zK p)) []:=by
 refine zc Tryz.func129 ?_;have dl:=ju p;have ll:=jH (zu p);rw[← yL]at ll;refine zb.t (zxo p hp)<|⟨Nat,λi=>⟨[(1,.loc 0 0),(3,i64 (atS (ze p) i)),(4,.sl ptE (ze p)),(5,i64 ((i:Int)+1))],[(0,.box 118 [.sl ptE p.pts,pr (p.cl=true)])],1,32,0⟩,λi=>i<=(ze p).length - 1,λi=>(ze p).length - i,0,?_,?_,?_⟩
 ·exact Xe _
 ·exact zf [0]
 rintro i hi
 have ar:=vQ (ze p) i;intro hl1;refine⟨λg=>?_,λg=>?_⟩;rotate_left
 ·have g:¬(i:Int)+1 < (ze p).length:=g;exact zi (by unfold zK;rw[show i=(ze p).length - 1 by omega])
 have g:(i:Int)+1 < (ze p).length:=g;refine zb.t (zsR p.pts)<|⟨λ_=>?_,λh=>absurd ok h⟩;refine Dr.k<|Ar.o<|Ob.o ?_;intro x hx
 have hx:=qt (show(ze p)[i]? =some x by
  have hx:(ze p)[((i:Int)+1 - 1).toNat]? =some x:=hx
  rwa [show((i:Int)+1 - 1).toNat=i by omega]at hx)
 refine Ob.o ?_;intro y hy;have hy:=qt (show(ze p)[i+1]? =some y from hy);refine zb.t (zsS x y) ?_;have pc:=yB x y;(iterate 2 refine Ar.o ?_);exact⟨i+1,oM,zL [0] ⟨rfl,congrArg (λq=>some (i64 q)) (by rw[hx,hy];rfl),rfl,congrArg (λq=>some (i64 q)) oM,trivial⟩ ⟨rfl,trivial⟩,by dsimp only;omega⟩
theorem zAh(d:List Int)(hd:uC d):CG0 194 [.sl uN d] [] (.tup [i64 (qI d),i64 (drawn d)]) []:=by
 refine zc Tryz.func194 ?_;obtain⟨d1,d2,d3,d4⟩:=yj hd;refine⟨Nat,λi=>⟨[(0,.sl uN d),(4,i64 (qD d i)),(5,i64 (256*u4 0 d i)),(6,i64 (i:Int))],[],0,32,0⟩,λi=>i<=d.length,λi=>d.length - i,0,?_,?_,?_⟩
 ·exact Xe _
 ·exact zE []
 rintro i hi
 have hpi:=zdL d1 hi;have hps:=zbs d i hi;have q0:=yi (r:=0) d1 i hi;have q1:=yi (r:=1) d1 i hi;intro hl1;refine⟨λg=>?_,λg=>?_⟩
 ·have g:(i:Int) < d.length:=g;refine Ob.o ?_;intro x hx;have hx:d[i]? =some x:=hx;have hx1:=d1 x (Xd hx);have hx2:=d2 x (Xd hx);(iterate 2 refine Ar.o ?_);refine Dv.pos ⟨oM,dC⟩<|⟨λev=>?_,λev=>?_⟩
  ·have ev:(i:Int) % 2=0:=ev;refine Ob.o ?_;intro x' hx';have ex:x'=x:=Xj ((show d[i]? =some x' from hx').symm.trans hx);rw[ex];(iterate 3 refine Ar.o ?_);exact⟨i+1,oM,jG [] ⟨rfl,congrArg (λq=>some (i64 q)) (yw hx).symm,congrArg (λq=>some (i64 q)) (by rw[zet hx oM];omega),rfl,trivial⟩ trivial,by dsimp only;omega⟩
  ·have ev:¬(i:Int) % 2=0:=ev;exact Ar.o<|⟨i+1,oM,jG [] ⟨rfl,congrArg (λq=>some (i64 q)) (yw hx).symm,congrArg (λq=>some (i64 q)) (by rw[zhu oM]),rfl,trivial⟩ trivial,by dsimp only;omega⟩
 ·have g:¬(i:Int) < d.length:=g;have ei:i=d.length:=oM;exact zI (zi (by rw[ei,yK])) (zi (by rw[ei];rfl))
theorem zBB(pen:Pen)(t:Nat)(hk:kF pen)(hper:0 < qI pen.d)(ht:(t:Int)<=70368744177664):CG0 195 [.agg (ji pen),i64 (t:Int)] [] (.tup [i64 ((qQ pen.d (phD pen t) 0).1:Int),i64 (qQ pen.d (phD pen t) 0).2]) []:=by
 refine zc Tryz.func195 ?_;obtain⟨d1,d2,d3,d4⟩:=yj hk.2.2.2.2.1;have hph:=hk.2.2.2.2.2;refine zb.t (zAh pen.d hk.2.2.2.2.1) ?_;have m1:=Kv (256*pen.ph) (show qI pen.d≠0 by omega);have m2:=X8 (256*pen.ph) hper;have m3:=Kv (t:Int) (show qI pen.d≠0 by omega);have m6:=X8 (t:Int) hper;have m4:=Kv ((t:Int) % qI pen.d+256*pen.ph % qI pen.d) (show qI pen.d≠0 by omega);have m5:=X8 ((t:Int) % qI pen.d+256*pen.ph % qI pen.d) hper;refine Dr.k ?_
 refine Dv.pos ⟨oM,oM⟩<|Ar.o<|Dv.pos ⟨oM,oM⟩<|Ar.o<|Dv.pos ⟨oM,oM⟩ ?_;have ek:phD pen t=((t:Int) % qI pen.d+256*pen.ph % qI pen.d) % qI pen.d:=rfl;rw[← ek]at m4 m5;refine⟨Nat,λi=>⟨[(2,.loc 0 0),(8,i64 (phD pen t - qD pen.d i)),(9,i64 (i:Int))],[(0,.box 50 (ji pen))],1,59,0⟩,λi=>i<=pen.d.length/\qD pen.d i<=phD pen t,λi=>pen.d.length - i,0,?_,?_,?_⟩
 ·exact⟨Xe _,by rw[ut];exact m4⟩
 ·exact zL [0] ⟨rfl,congrArg (λq=>some (i64 q)) (by rw[ut,Int.sub_zero];exact ek.symm),rfl,trivial⟩ ⟨rfl,trivial⟩
 rintro i ⟨hi,hle⟩
 have hpi:=zdL d1 hi;intro hl1;refine⟨λg=>?_,λg=>?_⟩
 ·have g:(i:Int) < pen.d.length:=g;refine Ob.o ?_;intro x hx;have hx:pen.d[i]? =some x:=hx;have same:∀y,pen.d[(i:Int).toNat]? =some y->y=x:=λy h=>Xj ((show pen.d[i]? =some y from h).symm.trans hx)
  have hx1:=d1 x (Xd hx);have hx2:=d2 x (Xd hx);have hs:=yw hx;refine Ar.o<|Br.mk (λc=>?_) (λc=>?_)
  ·have c:phD pen t - qD pen.d i < 256*x:=c;have hp:=zeo (i0:=0) d1 hx hle oM;refine Dr.k<|Ob.o ?_;intro x' hx';rw[same x' hx'];(iterate 2 refine Ar.o ?_);refine zI (zi ?_) (zi ?_)
   ·rw[hp];show(i:Int)=((0+i:Nat):Int);omega
   ·rw[hp];dsimp only;omega
  ·have c:¬phD pen t - qD pen.d i < 256*x:=c;refine Ob.o ?_;intro x' hx';rw[same x' hx'];(iterate 3 refine Ar.o ?_);exact⟨i+1,⟨oM,oM⟩,zL [0] ⟨rfl,congrArg (λq=>some (i64 q)) (by rw[hs];omega),rfl,trivial⟩ ⟨rfl,trivial⟩,by dsimp only;omega⟩
 ·have g:¬(i:Int) < pen.d.length:=g;have:qD pen.d i=qI pen.d:=by rw[show i=pen.d.length by omega,yK]
  omega
end Go.Gs
