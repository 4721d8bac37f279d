/- The conditions that an operation, a region, a piece of code leave to be shown. -/
import Derived.Test.YtjfbljononkmcaaMA
import Derived.Test.YtjfbljononkmcaaMAA
set_option maxRecDepth 100000
set_option maxHeartbeats 8000000
set_option linter.all false
namespace Go.Gs
def ut:Mem->Prop
 | .box _ cs=>kz.flats cs=true
 | .arr _ enc _ xs=>∀x∈xs,kz.flats (enc x)=true
 | .garr _ _ _=>False
 | .map es=>kz.flats (es.map (·.2))=true
def give(lm:Nat->Option Mem)(k:Nat)(s:SV):SV:=
 match s with
 |.loc k' off=>(match Nat.beq k' k with
  | true=>.loc 0 off
  | false=>v9 lm (.loc k' off))
 |.own k'=>(match Nat.beq k' k with
  | true=>.own 0
  | false=>v9 lm (.own k'))
 |.win k' sz lo n=>(match Nat.beq k' k with
  | true=>.win 0 sz lo n
  | false=>v9 lm (.win k' sz lo n))
 | s=>v9 lm s
def zeo(lm:Nat->Option Mem)(k:Nat):List SV->List SV
 | []=>[]
 | c::cs=>give lm k c::zeo lm k cs
def zbj(k:Nat):List SV->Bool
 | []=>true
 |.loc k' _::r=>(match Nat.beq k' k with
  | true=>false
  | false=>zbj k r)
 | _::r=>zbj k r
def jo(lm:Nat->Option Mem)(k:Nat):List SV->Bool
 | []=>true
 |.loc k' off::r=>(match Nat.beq k' k with
  | true=>jo lm k r
  | false=>qo (kY lm [.loc k' off]) (jo lm k r))
 |.own k'::r=>(match Nat.beq k' k with
  | true=>jo lm k r
  | false=>false)
 |.win k' _ _ _::r=>(match Nat.beq k' k with
  | true=>jo lm k r
  | false=>false)
 | .fn f cs::r=>qo (zbj k cs) (qo (kY lm [.fn f cs]) (jo lm k r))
 | s::r=>qo (kY lm [s]) (jo lm k r)
def vQ:Mem->Prop
 | .box _ cs=>qp.scalars cs=true
 | .arr _ enc _ xs=>∀x∈xs,qp.scalars (enc x)=true
 | .garr _ _ _=>False
 | .map es=>qp.scalars (es.map (·.2))=true
def mv(κ:Nat):SV->SV
 | .own _=>.own κ
 | .loc _ off=>.loc κ off
 | .agg cs=>.agg (mvs κ cs)
 | .tup cs=>.tup (mvs κ cs)
 | .fn f cs=>.fn f (mvs κ cs)
 | .ifc t s=>.ifc t (mv κ s)
 | s=>s
 where
 mvs (κ:Nat):List SV->List SV
  | []=>[]
  | c::cs=>mv κ c::mvs κ cs
def qW:SV->Bool
 | .own k=>Nat.beq k 0
 | .loc k _=>Nat.beq k 0
 | .val _=>true
 | .pr _ _=>true
 | .junk=>true
 | .agg cs=>mvOKs cs
 | .tup cs=>mvOKs cs
 | .fn _ cs=>mvOKs cs
 | .ifc _ s=>qW s
 | _=>false
 where
 mvOKs:List SV->Bool
  | []=>true
  | c::cs=>match qW c with
   | true=>mvOKs cs
   | false=>false
def zfM:Option Mem->Bool
 | some (.arr _ _ _ _)=>true
 | _=>false
def zfN(lm:Nat->Option Mem)(k:Nat):List SV->Bool
 | []=>true
 |.own k'::r=>(match Nat.beq k' k with
  | true=>zfN lm k r
  | false=>false)
 | s::r=>qo (kY lm [s]) (zfN lm k r)
def LE(s r:SV):Prop:=∀S Pm ρ w v,G S Pm ρ w s v->G S Pm ρ w r v
inductive LEs:List SV->List SV->Prop
 | nil:LEs [] []
 | cons {a b:SV} {za bs:List SV} (h:LE a b) (t:LEs za bs):LEs (a::za) (b::bs)
def rn(ks:List Nat)(κ j:Nat):Nat:=
 match ks[j]? with
 | some k=>k
 | none=>κ+(j - ks.length)
def k6(ks:List Nat)(κ:Nat):SV->SV
 | .loc k off=>.loc (rn ks κ k) off
 | .own k=>.own (rn ks κ k)
 | .eloc k sz i off=>.eloc (rn ks κ k) sz i off
 | .win k sz lo n=>.win (rn ks κ k) sz lo n
 | .agg cs=>.agg (rens ks κ cs)
 | .tup cs=>.tup (rens ks κ cs)
 | .fn f cs=>.fn f (rens ks κ cs)
 | .ifc t s=>.ifc t (k6 ks κ s)
 | s=>s
 where
 rens (ks:List Nat) (κ:Nat):List SV->List SV
  | []=>[]
  | c::cs=>k6 ks κ c::rens ks κ cs
def yl(n:Nat):SV->Bool
 | .loc k _=>Nat.blt k n
 | .own k=>Nat.blt k n
 | .eloc k _ _ _=>Nat.blt k n
 | .win k _ _ _=>Nat.blt k n
 | .agg cs=>lows n cs
 | .tup cs=>lows n cs
 | .fn _ cs=>lows n cs
 | .ifc _ s=>yl n s
 | _=>true
 where
 lows (n:Nat):List SV->Bool
  | []=>true
  | c::cs=>match yl n c with
   | true=>lows n cs
   | false=>false
def ym(n:Nat):SV->Bool
 | .loc k _=>Nat.blt k n
 | .own k=>Nat.blt k n
 | .eloc k _ _ _=>Nat.blt k n
 | .win k _ _ _=>Nat.blt k n
 | .ptr _=>false
 | .agg cs=>outs n cs
 | .tup cs=>outs n cs
 | .fn _ cs=>outs n cs
 | .ifc _ s=>ym n s
 | _=>true
 where
 outs (n:Nat):List SV->Bool
  | []=>true
  | c::cs=>match ym n c with
   | true=>outs n cs
   | false=>false
def za4(ks:List Nat)(κ:Nat):Mem->Mem
 | .box T cs=>.box T (k6.rens ks κ cs)
 | .garr T sz xs=>.garr T sz (xs.map (k6.rens ks κ))
 | m=>m
def jh(ks:List Nat)(κ:Nat):List (Nat×Mem)->List (Nat×Mem)
 | []=>[]
 | (j,m)::r=>(rn ks κ j,za4 ks κ m)::jh ks κ r
def lowM(n:Nat):Mem->Prop
 | .box _ cs=>yl.lows n cs=true
 | .garr _ _ xs=>∀x∈xs,yl.lows n x=true
 | _=>True
def outM(n:Nat):Mem->Prop
 | .box _ cs=>ym.outs n cs=true
 | .garr _ _ xs=>∀x∈xs,ym.outs n x=true
 | _=>True
def vR(lm:Nat->Option Mem)(ks0:List Nat)(κ:Nat)(Mc:List (Nat×Mem)):Nat->List Nat->Prop
 | _,[]=>True
 | i,k::r=>(∃m,zl Mc i=some m/\lm k=some (za4 ks0 κ m)/\lowM ks0.length m)/\vR lm ks0 κ Mc (i+1) r
def zbU(n:Nat):List (Nat×Mem)->Prop
 | []=>True
 | (j,m)::r=>(Nat.blt j n=true/\outM n m)/\zbU n r
def zdJ(k:Nat):List Nat->Bool
 | []=>false
 | x::r=>match Nat.beq x k with
  | true=>true
  | false=>zdJ k r
def zaa:List Nat->Bool
 | []=>true
 | x::r=>match zdJ x r with
  | true=>false
  | false=>zaa r
def zcE(n:Nat):List (Nat×Mem)->Bool
 | []=>true
 | (k,_)::r=>qo (Nat.blt k n) (zcE n r)
def memM(k:Nat):List (Nat×Mem)->Bool
 | []=>false
 | (q,_)::r=>match Nat.beq q k with
  | true=>true
  | false=>memM k r
def zab:List (Nat×Mem)->Bool
 | []=>true
 | (k,_)::r=>match memM k r with
  | true=>false
  | false=>zab r
def newB(ks:List Nat)(κ nn:Nat):List (Nat×Mem)->Bool
 | []=>true
 | (k,_)::r=>qo (zdJ k ks||(Nat.ble κ k&&Nat.blt k (κ+nn))) (newB ks κ nn r)
def zbV(k:Nat):List (Nat×Mem)->Bool
 | []=>false
 | (q,_)::r=>match Nat.beq q k with
  | true=>true
  | false=>zbV k r
def zbW(new:List (Nat×Mem))(κ:Nat):Nat->Bool
 | 0=>true
 | n+1=>qo (zbV (κ+n) new) (zbW new κ n)
def zbX(l:List SV):(List SV->Prop)->Prop:=
 List.rec (motive:=fun _=>(List SV->Prop)->Prop) (fun K=>K []) (fun c _ ih K=>qO c fun c=>ih fun r=>K (c::r)) l
def zbY(m:Mem)(K:Mem->Prop):Prop:=
 match m with
 | .box T cs=>zbX cs fun cs=>K (.box T cs)
 | .arr T enc sz xs=>K (.arr T enc sz xs)
 | .garr T sz xs=>K (.garr T sz xs)
 | .map es=>K (.map es)
def zhH(n:Nat):(Nat->Prop)->Prop:=
 Nat.rec (motive:=fun _=>(Nat->Prop)->Prop) (fun K=>K 0) (fun _ ih K=>ih fun m=>K (m+1)) n
def vS(l:List (Nat×Mem)):(List (Nat×Mem)->Prop)->Prop:=
 List.rec (motive:=fun _=>(List (Nat×Mem)->Prop)->Prop) (fun K=>K []) (fun x _ ih K=>zhH x.1 fun k=>zbY x.2 fun m=>ih fun r=>K ((k,m)::r)) l
inductive ze (P:Program) (lm:Nat->Option Mem) (κ:Nat) (f:FuncId) (args:List SV) (K:SV->MD->Prop):Prop
 | to (r:SV) (h:zf P f (yd lm args) [] r []) (hr:zen lm args r=true) (k:qO r fun r=>K r .none)
 | fresh (m:Mem) (r:SV) (h:zf P f (yd lm args) [] r [(0,m)]) (hr:qW r=true) (hm:ut m) (hc:kY lm args=true∨vQ m) (k:qO (mv κ r) fun r=>K r (.push m))
 | see (k:Nat) (r:SV) (h:zf P f (yd lm args) [] r []) (hk:zfM (lm k)=true) (hc:zfN lm k args=true) (hr:v8 r=true) (kk:qO r fun r=>K r (.drop k))
 | hand (k:Nat) (m m':Mem) (r:SV) (hk:lm k=some m) (h:zf P f (zeo lm k args) [(0,m)] r [(0,m')])
   (hm:ut m) (hm':ut m') (hc:jo lm k args=true) (hr:v8 r=true) (k:qO r fun r=>K r (.set k m'))
 | give (ks:List Nat) (nn:Nat) (args':List SV) (Mc M':List (Nat×Mem)) (r:SV) (h:zf P f args' Mc r M') (ha:LEs args (k6.rens ks κ args')) (hl:yl.lows ks.length args'=true)
   (hn:zaa ks=true) (hk:qo (Nat.beq Mc.length ks.length) (qo (zcE ks.length Mc) (zab Mc))=true) (hM:vR lm ks κ Mc 0 ks) (hr:ym (ks.length+nn) r=true) (hM':zbU (ks.length+nn) M')
   (k:vS (jh ks κ M') fun new=>qO (k6 ks κ r) fun r=>K r (.give ks new nn))
theorem ze.t{P:Program}{lm:Nat->Option Mem}{κ:Nat}{f:FuncId}{args:List SV}{K:SV->MD->Prop}{r:SV}(h:zf P f (yd lm args) [] r [])(k:qO r fun r=>K r .none)(hr:zen lm args r=true:=by rfl):ze P lm κ f args K:=.to r h hr k
def zbk(s:SV):Bool:=
 match s with
 |.val v=>(match v with
  | .agg _=>false
  | .tuple _=>false
  | _=>true)
 | .agg _=>false
 | .tup _=>false
 | .junk=>false
 | _=>true
def z0:List SV->Bool
 | []=>true
 | c::cs=>match zbk c with
  | true=>z0 cs
  | false=>false
def z8(o:Option Operand)(l:List SV)(dflt:Int)(K:Int->List SV->Prop):Prop:=
 match o with
 | none=>K dflt l
 | some _=>match l with
  | .val (.int _ n)::r=>K n r
  | _=>False
def fstO(p:Option (Nat×Nat)):Nat:=
 match p with
 | some (a,_)=>a
 | none=>0
def jS(pl:Nat->Option (Nat×Nat)):List Nat->List SV->List SV->List SV
 | i::r,s::l,cs=>jS pl r l (ky cs (fstO (pl i)) (zA s))
 | _,_,cs=>cs
def jp(pl:Nat->Option (Nat×Nat))(n:Nat):List Nat->List SV->Bool
 |i::r,s::l=>(match pl i with
  | some (off,sz)=>qo (Nat.beq (zA s).length sz) (qo (Nat.ble (off+sz) n) (qo (z0 (zA s)) (jp pl n r l)))
  | none=>false)
 | [],[]=>true
 | _,_=>false
def zac(Γ:List (TypeId×TI))(fs:List (Nat×TypeId))(i:Nat):Option (Nat×Nat):=
 match zcC fs i with
 |some (off,ft)=>(match ti Γ ft with
  | some j=>some (off,j.sz)
  | none=>none)
 | none=>none
def qK(sz i:Nat):Option (Nat×Nat):=some (i*sz,sz)
def rep{α:Type 1}(n:Nat)(cs:List α):List α:=
 match n with
 | 0=>[]
 | n+1=>cs++rep n cs
def y6{α:Type _}(enc:α->List SV)(xs:List α):List SV:=
 match xs with
 | []=>[]
 | x::xs=>enc x++y6 enc xs
def zhI(lm:Nat->Option Mem)(s:SV)(K:Int->Prop):Prop:=
 match s with
 | .sl _ xs=>xs.length<=9223372036854775807->K xs.length
 |.own k=>(match lm k with
  | some (.arr _ _ _ xs)=>xs.length<=281474976710656->K xs.length
  | some (.garr _ _ xs)=>xs.length<=281474976710656->K xs.length
  | _=>False)
 | .val (.slice none 0 0)=>K 0
 | .nils=>K 0
 | .win _ _ _ n=>Ob (0<=n) (K n)
 | _=>False
def zfc(s:List SV)(K:IntKind->List Int->Prop):Prop:=
 match s with
 |.val (.int k m)::r=>(match r with
  | []=>K k [m]
  | _=>zfc r fun _ l=>K k (m::l))
 | _=>False
def uu:Int->List Int->Int
 | x,[]=>x
 | x,y::r=>uu (min x y) r
def zbZ:Int->List Int->Int
 | x,[]=>x
 | x,y::r=>zbZ (max x y) r
def jT{α:Type}(lm:Nat->Option Mem)(s:SV)(enc:α->List SV)(ys:List α):Prop:=
 match s with
 | .val (.slice none 0 0)=>ys=[]
 | .own k=>vw lm (.own k)=.sl enc ys
 | s=>s=.sl enc ys
inductive Sl (p q:Prop) (r:Prop:=False):Prop
 | see (h:p)
 | keep (h:q)
 | win (h:r)
def vT(Γ:List (TypeId×TI))(tys:List TypeId)(s x:SV)(lm:Nat->Option Mem)(κ:Nat)(K:SV->MD->Prop):Prop:=
 match tys with
 |[t,t']=>zi (Nat.beq t t') (zt Γ t fun i=>(match i.kind with
  |.slice e=>zt Γ e fun j=>(match s with
   | .val (.slice none 0 0)=>∃(α:Type) (enc:α->List SV) (ys:List α),jT lm x enc ys/\
     Ob ((ys.length:Int)*j.bytes<=140737488355328/\ys.length<=281474976710656/\0 < j.sz/\∀x∈ys,(enc x).length=j.sz) (K (.own κ) (.push (.arr e enc j.sz ys)))
   |.own k=>(match lm k with
    |some (.arr e' enc sz xs)=>zi (Nat.beq e e') (zi (Nat.beq sz j.sz) (∃ys,jT lm x enc ys/\
     Ob ((xs.length+ys.length:Int)*j.bytes<=140737488355328/\xs.length+ys.length<=281474976710656/\0 < j.sz/\∀x∈ys,(enc x).length=j.sz)
      (K (.own κ) (.repl k (.arr e enc sz (xs++ys))))))
    |some (.garr e' sz xs)=>zi (Nat.beq e e') (zi (Nat.beq sz j.sz) (∃(α:Type) (enc:α->List SV) (ys:List α),jT lm x enc ys/\
     Ob ((xs.length+ys.length:Int)*j.bytes<=140737488355328/\xs.length+ys.length<=281474976710656/\0 < j.sz/\∀x∈ys,(enc x).length=j.sz)
      (K (.own κ) (.repl k (.garr e sz (xs++ys.map enc))))))
    | _=>False)
   | .full enc xs=>∃ys,jT lm x enc ys/\
     Ob (ys≠[]/\(xs.length+ys.length:Int)*j.bytes<=140737488355328/\xs.length+ys.length<=281474976710656/\0 < j.sz/\(∀x∈xs,(enc x).length=j.sz)/\∀x∈ys,(enc x).length=j.sz)
      (K (.own κ) (.push (.arr e enc j.sz (xs++ys))))
   | .nils=>Sl (∃(α:Type) (enc:α->List SV) (ys:List α),jT lm x enc ys/\
     Ob (ys≠[]/\(ys.length:Int)*j.bytes<=140737488355328/\ys.length<=281474976710656/\0 < j.sz/\∀x∈ys,(enc x).length=j.sz) (K (.own κ) (.push (.arr e enc j.sz ys))))
     (∃(α:Type) (enc:α->List SV),jT lm x enc ([]:List α)/\0 < j.sz/\K .nils .none)
   | _=>False)
  | _=>False))
 | _=>False
def zad(Γ:List (TypeId×TI))(tys:List TypeId)(s:SV)(e':TypeId)(sz':Nat)(ys:List (List SV))(lm:Nat->Option Mem)(κ:Nat)(K:SV->MD->Prop):Prop:=
 match tys with
 |[t,t']=>zi (Nat.beq t t') (zt Γ t fun i=>(match i.kind with
  |.slice e=>zt Γ e fun j=>zi (Nat.beq e e') (zi (Nat.beq sz' j.sz) (match s with
   | .val (.slice none 0 0)=>Ob ((ys.length:Int)*j.bytes<=140737488355328/\ys.length<=281474976710656/\0 < j.sz) (K (.own κ) (.push (.garr e j.sz ys)))
   |.own k=>(match lm k with
    | some (.garr e'' sz xs)=>zi (Nat.beq e e'') (zi (Nat.beq sz j.sz)
      (Ob ((xs.length+ys.length:Int)*j.bytes<=140737488355328/\xs.length+ys.length<=281474976710656/\0 < j.sz) (K (.own κ) (.repl k (.garr e sz (xs++ys))))))
    | _=>False)
   | _=>False))
  | _=>False))
 | _=>False
def zep(Γ:List (TypeId×TI))(tys:List TypeId)(s:SV)(n:Int)(κ:Nat)(K:SV->MD->Prop):Prop:=
 match tys,s with
 |[t,t'],.val (.slice none 0 0)=>zt Γ t fun i=>zt Γ t' fun i'=>(match i.kind,i'.kind with
  | .slice e,.int _=>zt Γ e fun j=>∃(α:Type) (enc:α->List SV) (z:α),
    enc z=vals j.zero/\Ob (0 < j.sz/\0 < n/\n*j.bytes<=140737488355328/\n<=281474976710656) (K (.own κ) (.push (.arr e enc j.sz (List.replicate n.toNat z))))
  | _,_=>False)
 | _,_=>False
def uv(lm:Nat->Option Mem)(k:Nat)(T:TypeId){α:Type}(enc:α->List SV)(sz:Nat)(xs:List α)(lo n:Int)(x:SV)(K:SV->MD->Prop):Prop:=
 ∃ys,jT lm x enc ys/\Ob (0 < sz/\0<=lo/\0<=n/\lo+n<=xs.length/\∀y∈ys,(enc y).length=sz)
  (K (.val (.int .i64 (min ys.length n.toNat:Nat))) (.set k (.arr T enc sz (xs.take lo.toNat++(ys.take n.toNat++xs.drop (lo.toNat+min ys.length n.toNat))))))
def zae(Γ:List (TypeId×TI))(b:Builtin)(tys:List TypeId)(args:List SV)(lm:Nat->Option Mem)(κ:Nat)(K:SV->MD->Prop):Prop:=
 match b,args with
 |.len,[s]=>(match tys with
  |[t]=>zt Γ t fun i=>(match i.kind with
   | .slice _=>zhI lm s fun n=>K (.val (.int .i64 n)) .none
   | _=>False)
  | _=>False)
 |.cap,[s]=>(match tys with
  |[t]=>zt Γ t fun i=>(match i.kind with
   |.slice _=>(match s with
    | .val (.slice none 0 0)=>K (.val (.int .i64 0)) .none
    | .nils=>K (.val (.int .i64 0)) .none
    | _=>False)
   | _=>False)
  | _=>False)
 |.min,s=>zfc s fun k l=>(match l with
  | x::r=>K (.val (.int k (uu x r))) .none
  | []=>False)
 |.max,s=>zfc s fun k l=>(match l with
  | x::r=>K (.val (.int k (zbZ x r))) .none
  | []=>False)
 |.append,[s,x]=>(match x with
  | .val (.int _ n)=>zep Γ tys s n κ K
  |.own k'=>(match lm k' with
   | some (.garr e' sz' ys)=>zad Γ tys s e' sz' ys lm κ K
   | _=>vT Γ tys s (.own k') lm κ K)
  | x=>vT Γ tys s x lm κ K)
 |.copy,[d,x]=>(match tys with
  |[t,_]=>zt Γ t fun i=>(match i.kind with
   |.slice e=>zt Γ e fun j=>(match d with
    |.own k=>(match lm k with
     | some (.arr T enc sz xs)=>zi (Nat.beq sz j.sz) (uv lm k T enc sz xs 0 xs.length x K)
     | _=>False)
    |.win k sz' lo n=>(match lm k with
     | some (.arr T enc sz xs)=>zi (Nat.beq sz j.sz) (zi (Nat.beq sz' sz) (uv lm k T enc sz xs lo n x K))
     | _=>False)
    | _=>False)
   | _=>False)
  | _=>False)
 |.clear,[d]=>(match tys with
  |[t]=>zt Γ t fun i=>(match i.kind with
   |.slice e=>zt Γ e fun j=>(match d with
    |.win k sz' lo n=>(match lm k with
     | some (.arr T (α:=α) enc sz xs)=>zi (Nat.beq sz j.sz) (zi (Nat.beq sz' sz) (∃z:α,enc z=vals j.zero/\
       Ob (0<=lo/\0 < n/\lo+n<=xs.length) (K (.val (.tuple #[])) (.set k (.arr T enc sz (xs.take lo.toNat++(List.replicate n.toNat z++xs.drop (lo.toNat+n.toNat))))))))
     | _=>False)
    | _=>False)
   | _=>False)
  | _=>False)
 | _,_=>False
def zfO(Γ:List (TypeId×TI))(t:TypeId)(s:SV)(lm:Nat->Option Mem)(K:SV->MD->Prop):Prop:=
 zt Γ t fun i=>(match s with
  |.loc k off=>(match lm k with
   | some (.box _ cs)=>zi (Nat.ble (off+i.sz) cs.length) (mkV i.kind.agg i.sz (cs.drop off) fun s=>K s .none)
   | _=>False)
  | .ptr cs=>zi (Nat.ble i.sz cs.length) (mkV i.kind.agg i.sz cs fun s=>K s .none)
  | .dptr cs=>zi (Nat.ble i.sz cs.length) (mkV i.kind.agg i.sz cs fun s=>K s .none)
  |.eloc k sz n off=>(match lm k with
   | some (.arr _ enc sz' xs)=>zi (Nat.beq sz sz') (zi (Nat.ble (off+i.sz) sz) (Ob (0<=n/\n < xs.length) (∀x,xs[n.toNat]? =some x->
     mkV i.kind.agg i.sz ((enc x).drop off) fun s=>K s .none)))
   | some (.garr _ sz' xs)=>zi (Nat.beq sz sz') (zi (Nat.ble (off+i.sz) sz) (Ob (0<=n/\n < xs.length) (∀x,xs[n.toNat]? =some x->
     mkV i.kind.agg i.sz (x.drop off) fun s=>K s .none)))
   | _=>False)
  | _=>False)
def zdK(Γ:List (TypeId×TI))(t:TypeId)(s v:SV)(lm:Nat->Option Mem)(K:SV->MD->Prop):Prop:=
 zt Γ t fun i=>zi (z0 (zA v)) (zi (Nat.beq (zA v).length i.sz) (match s with
  |.loc k off=>(match lm k with
   | some (.box T cs)=>zi (Nat.ble (off+i.sz) cs.length) (K (.val undef) (.set k (.box T (ky cs off (zA v)))))
   | _=>False)
  |.eloc k sz n off=>(match lm k with
   |some (.arr T (α:=α) enc sz' xs)=>zi (Nat.beq sz sz') (zi (Nat.ble (off+i.sz) sz) (match kz.flats (zA v) with
    |true=>(Ob (0<=n/\n < xs.length) (∀x,xs[n.toNat]? =some x->
     ∃x':α,enc x'=ky (enc x) off (zA v)/\K (.val undef) (.set k (.arr T enc sz (xs.set n.toNat x')))))
    |false=>(Ob (0<=n/\n < xs.length) (∀x,xs[n.toNat]? =some x->
     K (.val undef) (.set k (.garr T sz ((xs.map enc).set n.toNat (ky (enc x) off (zA v)))))))))
   | some (.garr T sz' xs)=>zi (Nat.beq sz sz') (zi (Nat.ble (off+i.sz) sz) (Ob (0<=n/\n < xs.length) (∀x,xs[n.toNat]? =some x->
     K (.val undef) (.set k (.garr T sz (xs.set n.toNat (ky x off (zA v))))))))
   | _=>False)
  | _=>False))
def zfP(hi mx:Option Operand):Bool:=
 match mx,hi with
 | some _,none=>false
 | _,_=>true
def zfQ:Option Operand->Bool
 |some (.const (.int _ n))=>(match n with
  | .ofNat m=>Nat.beq m 0
  | _=>false)
 | _=>false
inductive FullC (p q:Prop):Prop
 | sl (h:p)
 | full (h:q)
def jq:Option Operand->Bool
 | none=>true
 | _=>false
def zdL(Γ:List (TypeId×TI))(t:TypeId)(lo hi mx:Option Operand)(svs:List SV)(lm:Nat->Option Mem)(κ:Nat)(K:SV->MD->Prop):Prop:=
 zi (zfP hi mx) (match svs with
 |s::rest=>zt Γ t fun i=>(match i.kind with
  |.slice e=>zt Γ e fun j=>(match s with
   |.sl enc xs=>(match qo (zfQ hi) (zfQ mx) with
    | true=>z8 lo rest 0 fun l rest=>z8 hi rest 0 fun h rest=>z8 mx rest 0 fun m _=>Ob (l=0/\h=0/\m=0) (K .nils .none)
    |false=>z8 lo rest 0 fun l rest=>z8 hi rest xs.length fun h rest=>z8 mx rest xs.length fun m _=>(match jq mx with
     | true=>Ob ((0<=l/\l<=h/\h<=m/\m<=xs.length)/\∀x∈xs,(enc x).length=j.sz) (K (.sl enc ((xs.drop l.toNat).take (h - l).toNat)) .none)
     | false=>FullC (Ob ((0<=l/\l<=h/\h<=m/\m<=xs.length)/\∀x∈xs,(enc x).length=j.sz) (K (.sl enc ((xs.drop l.toNat).take (h - l).toNat)) .none))
      (Ob ((0<=l/\l<=h/\h=m/\m<=xs.length)/\∀x∈xs,(enc x).length=j.sz) (K (.full enc ((xs.drop l.toNat).take (h - l).toNat)) .none))))
   | .val (.slice none 0 0)=>z8 lo rest 0 fun l rest=>z8 hi rest 0 fun h rest=>z8 mx rest 0 fun m _=>Ob (l=0/\h=0/\m=0) (K (.val (.slice none 0 0)) .none)
   |.own k=>(match lm k with
    |some (.arr T enc sz xs)=>zi (Nat.beq sz j.sz) (z8 lo rest 0 fun l rest=>z8 hi rest xs.length fun h rest=>z8 mx rest xs.length fun m _=>
     Sl (Ob (0<=l/\l<=h/\h<=m/\m<=xs.length) (K (.sl enc ((xs.drop l.toNat).take (h - l).toNat)) (.drop k)))
      (zi (jq mx) (Ob (l=0/\0<=h/\h<=xs.length) (K (.own κ) (.repl k (.arr T enc sz (xs.take h.toNat))))))
      (Ob (0<=l/\l < h/\h<=m/\m<=xs.length) (K (.win k sz l (h - l)) .none)))
    | some (.garr T sz xs)=>zi (Nat.beq sz j.sz) (zi (jq mx) (z8 lo rest 0 fun l rest=>z8 hi rest xs.length fun h _=>
      (Ob (l=0/\0<=h/\h<=xs.length) (K (.own κ) (.repl k (.garr T sz (xs.take h.toNat)))))))
    | _=>False)
   | .win k sz at0 n=>zi (Nat.beq sz j.sz) (z8 lo rest 0 fun l rest=>z8 hi rest n fun h rest=>z8 mx rest n fun m _=>
     Ob (0<=at0/\0<=l/\l < h/\h<=m/\m<=n) (K (.win k sz (at0+l) (h - l)) .none))
   | _=>False)
  | _=>False)
 | []=>False)
def zbl(Γ:List (TypeId×TI))(t:TypeId)(lo hi mx:Option Operand)(cs:List SV)(K:SV->MD->Prop):Prop:=
 zi (qo (jq lo) (qo (jq hi) (jq mx))) (zt Γ t fun i=>(match i.kind with
  | .arr n e=>zt Γ e fun j=>∃(α:Type) (enc:α->List SV) (xs:List α),y6 enc xs=cs/\
    Ob (xs.length=n/\n<=281474976710656/\∀x∈xs,(enc x).length=j.sz) (K (.sl enc xs) .none)
  | _=>False))
def zb0(Γ:List (TypeId×TI))(t:TypeId)(lo hi mx:Option Operand)(svs:List SV)(lm:Nat->Option Mem)(κ:Nat)(K:SV->MD->Prop):Prop:=
 match svs with
 | [.dptr cs]=>zbl Γ t lo hi mx cs K
 | svs=>zdL Γ t lo hi mx svs lm κ K
inductive BoxC (p q:Prop):Prop
 | own (h:p)
 | data (h:q)
def boxV(Γ:List (TypeId×TI))(e:TypeId)(s:SV)(κ:Nat)(K:SV->MD->Prop):Prop:=
 zi (z0 (zA s)) (match ti Γ e with
  |some i=>(match i.kind with
   |.arr _ _=>(match kz.flats (zA s) with
    | true=>BoxC (K (.loc κ 0) (.push (.box e (zA s)))) (K (.dptr (zA s)) .none)
    | false=>K (.loc κ 0) (.push (.box e (zA s))))
   | _=>K (.loc κ 0) (.push (.box e (zA s))))
  | none=>K (.loc κ 0) (.push (.box e (zA s))))
def uc(Γ:List (TypeId×TI))(t:TypeId)(f:Nat)(s:SV)(K:SV->MD->Prop):Prop:=
 zt Γ t fun i=>(match i.kind with
  |.struct fs=>(match zcC fs f with
   |some (off,ft)=>zt Γ ft fun j=>zi (Nat.blt 0 j.sz) (match s with
    | .loc k o'=>K (.loc k (o'+off)) .none
    | .ptr cs=>K (.ptr (cs.drop off)) .none
    | .dptr cs=>K (.dptr (cs.drop off)) .none
    | .eloc k sz i o'=>K (.eloc k sz i (o'+off)) .none
    | _=>False)
   | none=>False)
  | _=>False)
def ud(Γ:List (TypeId×TI))(t:TypeId)(s n:SV)(lm:Nat->Option Mem)(K:SV->MD->Prop):Prop:=
 zt Γ t fun i=>(match n with
  |.val (.int _ n)=>(match i.kind with
   |.slice e=>zt Γ e fun j=>(match s with
    | .sl enc xs=>Ob (0<=n/\n < xs.length) (∀x,xs[n.toNat]? =some x->zi (Nat.beq (enc x).length j.sz) (K (.ptr (enc x)) .none))
    |.own k=>(match lm k with
     | some (.arr _ _ sz xs)=>zi (Nat.beq sz j.sz) (Ob (0<=n/\n < xs.length) (K (.eloc k sz n 0) .none))
     | some (.garr _ sz xs)=>zi (Nat.beq sz j.sz) (Ob (0<=n/\n < xs.length) (K (.eloc k sz n 0) .none))
     | _=>False)
    | .win k sz lo l=>zi (Nat.beq sz j.sz) (Ob (0<=lo/\0<=n/\n < l) (K (.eloc k sz (lo+n) 0) .none))
    | _=>False)
   |.arr len e=>zt Γ e fun j=>(match n with
    |.ofNat m=>zi (Nat.blt m len) (match s with
     | .loc k off=>K (.loc k (off+m*j.sz)) .none
     | .ptr cs=>K (.ptr (cs.drop (m*j.sz))) .none
     | .dptr cs=>K (.dptr (cs.drop (m*j.sz))) .none
     | .eloc k sz i' o'=>K (.eloc k sz i' (o'+m*j.sz)) .none
     | _=>False)
    | _=>False)
   | _=>False)
  | _=>False)
def zdM(Γ:List (TypeId×TI))(t:TypeId)(s n:SV)(K:SV->MD->Prop):Prop:=
 zt Γ t fun i=>(match i.kind,s,n with
  |.arr len e,.agg cs,.val (.int _ n)=>zt Γ e fun j=>(match n with
   | .ofNat m=>zi (Nat.blt m len) (zi (Nat.ble (m*j.sz+j.sz) cs.length) (mkV j.kind.agg j.sz (cs.drop (m*j.sz)) fun s=>K s .none))
   | _=>False)
  | .str,.val (.string s),.val (.int _ n)=>Ob (0<=n/\n < s.size) (∀b:UInt8,s[n.toNat]? =some b->K (.val (.int .u8 b.toNat)) .none)
  | _,_,_=>False)
def zdN(Γ:List (TypeId×TI))(t:TypeId)(ids:List Nat)(svs:List SV)(K:SV->MD->Prop):Prop:=
 zt Γ t fun i=>(match i.kind with
  | .struct fs=>zi (jp (zac Γ fs) i.sz ids svs) (K (.agg (jS (zac Γ fs) ids svs (vals i.zero))) .none)
  | .arr _ e=>zt Γ e fun j=>zi (jp (qK j.sz) i.sz ids svs) (K (.agg (jS (qK j.sz) ids svs (vals i.zero))) .none)
  | _=>False)
def zhY:SV->Bool
 | .loc _ _=>false
 | .own _=>false
 | .eloc _ _ _ _=>false
 | .win _ _ _ _=>false
 | .ptr _=>false
 | .agg cs=>kz.flats cs
 | _=>true
def selB:List SV->Bool
 | []=>true
 | s::r=>match zhY s with
  | true=>selB r
  | false=>false
def yn(Γ:List (TypeId×TI))(t:TypeId)(n:Nat)(ids:List Nat)(svs:List SV)(κ:Nat)(K:SV->MD->Prop):Prop:=
 zt Γ t fun i=>(match i.kind with
  | .slice e=>zt Γ e fun j=>zi (jp (qK j.sz) (n*j.sz) ids svs) (match selB svs with
    |true=>(∃(α:Type) (enc:α->List SV) (xs:List α),
     y6 enc xs=jS (qK j.sz) ids svs (rep n (vals j.zero))/\
     Ob (xs.length=n/\n<=281474976710656/\n*j.sz<=16777216/\0 < j.sz/\∀x∈xs,(enc x).length=j.sz/\z0 (enc x)=true/\kz.flats (enc x)=true) (K (.own κ) (.push (.arr e enc j.sz xs))))
    |false=>zi (z0 (jS (qK j.sz) ids svs (rep n (vals j.zero)))) (∃(xs:List (List SV)),
     y6 id xs=jS (qK j.sz) ids svs (rep n (vals j.zero))/\
     Ob (xs.length=n/\n<=281474976710656/\n*j.sz<=16777216/\0 < j.sz/\∀x∈xs,x.length=j.sz) (K (.own κ) (.push (.garr e j.sz xs)))))
  | _=>False)
def ue(Γ:List (TypeId×TI))(t:TypeId)(l c:SV)(κ:Nat)(K:SV->MD->Prop):Prop:=
 zt Γ t fun i=>(match i.kind,l,c with
  | .slice e,.val (.int _ n),.val (.int _ m)=>zt Γ e fun j=>∃(α:Type) (enc:α->List SV) (z:α),
    enc z=vals j.zero/\Ob (0 < j.sz/\0<=n/\n<=m/\m*j.bytes<=281474976710656/\m<=281474976710656) (K (.own κ) (.push (.arr e enc j.sz (List.replicate n.toNat z))))
  | _,_,_=>False)
def zfR(c a b:SV)(K:SV->MD->Prop):Prop:=
 match c with
 | .val (.bool true)=>K a .none
 | .val (.bool false)=>K b .none
 | .pr p _=>Br (p->K a .none) (¬p->K b .none)
 | _=>False
def unV(op:UnOp)(s:SV)(K:SV->MD->Prop):Prop:=
 match op,s with
 | .not,.val (.bool true)=>K (.val (.bool false)) .none
 | .not,.val (.bool false)=>K (.val (.bool true)) .none
 | .not,.pr p i=>K (.pr (¬p) (@instDecidableNot _ i)) .none
 | .neg,.val (.int k n)=>za3 k (- n) fun s=>K s .none
 | _,_=>False
def k7:Option Operand->List Operand
 | none=>[]
 | some x=>[x]
def jU:Callee->List Operand
 | .value f=>[f]
 | .invoke r _=>[r]
 | .builtin _=>[]
def zG:Op->List Operand
 | .move x=>[x]
 | .assign x=>[x]
 | .pick c a b=>[c,a,b]
 | .box _ x=>[x]
 | .build _ ps=>ps.toList.map (·.2)
 | .buildSlice _ _ ps=>ps.toList.map (·.2)
 | .load _ a=>[a]
 | .store _ a x=>[a,x]
 | .nilCheck x=>[x]
 | .binOp _ _ x y _=>[x,y]
 | .unOp _ _ x=>[x]
 | .convert _ _ x=>[x]
 | .makeFunc _ first caps=>first.toList++caps.toList
 | .makeSlice _ l c=>[l,c]
 | .makeInterface _ x=>[x]
 | .typeAssert x _ _ _=>[x]
 | .makeMap _ r=>k7 r
 | .mapUpdate _ m k x=>[m,k,x]
 | .insert _ m k x=>[m,k,x]
 | .lookup _ m k _=>[m,k]
 | .slice _ x lo hi mx=>x::(k7 lo++(k7 hi++k7 mx))
 | .fieldAddr _ x _=>[x]
 | .field _ x _=>[x]
 | .indexAddr _ x i=>[x,i]
 | .index _ x i=>[x,i]
 | .extract x _=>[x]
 | .call c=>jU c.callee++c.args.toList
 | _=>[]
def zfS(es:List (Int×SV))(n:Int)(K1:SV->Prop)(K0:Prop):Prop:=
 List.rec (motive:=fun _=>Prop) K0 (fun x _ ih=>match x with
  | (k,s)=>Br (n=k->K1 s) (¬n=k->ih)) es
def updK(es:List (Int×SV))(n:Int)(s:SV):(List (Int×SV)->Prop)->Prop:=
 List.rec (motive:=fun _=>(List (Int×SV)->Prop)->Prop) (fun K=>K [(n,s)]) (fun x r ih K=>match x with
  | (k,s')=>Br (n=k->K ((n,s)::r)) (¬n=k->ih fun r'=>K ((k,s')::r'))) es
def zaf(Γ:List (TypeId×TI))(t:TypeId)(svs:List SV)(κ:Nat)(K:SV->MD->Prop):Prop:=
 zt Γ t fun i=>(match i.kind with
  |.map _ _=>(match svs with
   | []=>K (.own κ) (.push (.map []))
   | .val (.int _ _)::_=>K (.own κ) (.push (.map []))
   | _=>False)
  | _=>False)
def qw(Γ:List (TypeId×TI))(t:TypeId)(m k s:SV)(lm:Nat->Option Mem)(K:SV->MD->Prop):Prop:=
 zt Γ t fun i=>(match i.kind with
  |.map kt _=>zt Γ kt fun j=>(match j.kind,m,k with
   |.int .i64,.own c,.val (.int .i64 n)=>(match lm c with
    | some (.map es)=>zi (kz s) (updK es n s fun es'=>K (.val undef) (.set c (.map es')))
    | _=>False)
   | _,_,_=>False)
  | _=>False)
def ye(ok:Bool)(s:SV)(b:Bool)(K:SV->MD->Prop):Prop:=
 match ok with
 | true=>K (.tup [s,.val (.bool b)]) .none
 | false=>qO s fun s=>K s .none
def zb1(Γ:List (TypeId×TI))(t:TypeId)(ok:Bool)(m k:SV)(lm:Nat->Option Mem)(K:SV->MD->Prop):Prop:=
 zt Γ t fun i=>(match i.kind with
  |.map kt et=>zt Γ kt fun j=>zt Γ et fun z=>(match j.kind,m,k with
   |.int .i64,.own c,.val (.int .i64 n)=>(match lm c with
    | some (.map es)=>zfS es n (fun s=>ye ok s true K) (mkV z.kind.agg z.sz (vals z.zero) fun s=>ye ok s false K)
    | _=>False)
   | _,_,_=>False)
  | _=>False)
def zag(Γ:List (TypeId×TI))(t:TypeId)(s:SV)(K:SV->MD->Prop):Prop:=
 zt Γ t fun i=>(match i.kind with
  | .iface=>False
  | .other=>False
  | _=>K (.ifc t s) .none)
def zb2(t:TypeId)(ok:Bool)(s:SV)(Z:Prop)(K:SV->MD->Prop):Prop:=
 match s with
 |.ifc t' s'=>(match Nat.beq t' t with
  | true=>ye ok s' true K
  |false=>(match ok with
   | true=>Z
   | false=>False))
 |.val .nilIface=>(match ok with
  | true=>Z
  | false=>False)
 | _=>False
def zb3(Γ:List (TypeId×TI))(t:TypeId)(ok:Bool)(s:SV)(K:SV->MD->Prop):Prop:=
 zt Γ t fun i=>(match i.kind with
  | .iface=>False
  | .other=>False
  | _=>zb2 t ok s (mkV i.kind.agg i.sz (vals i.zero) fun s=>ye true s false K) K)
def zb4(P:Program)(t:TypeId)(name:String)(f:FuncId):Bool:=
 (match P.underlying t with
  | some (.struct _)=>true
  | _=>false)&&(match P.info? t with
  |some i=>(match i.methods.find? (·.name==name) with
   |some m=>m.path.isEmpty&&(match m.func with
    | some (g,p)=>Nat.beq g f&&!p
    | none=>false)
   | none=>false)
  | none=>false)
def zeq:List SV->(List Value->Prop)->Prop
 | [],K=>K []
 | .val v::r,K=>zeq r fun vs=>K (v::vs)
 | _,_=>False
def conc(s:SV)(K:Value->Prop):Prop:=
 match s with
 | .val v=>K v
 | .agg cs=>zeq cs fun vs=>K (.agg vs.toArray)
 | _=>False
def zer:List SV->(List Value->Prop)->Prop
 | [],K=>K []
 | s::r,K=>conc s fun v=>zer r fun vs=>K (v::vs)
def zfT:List SV->Bool
 | []=>true
 | .val _::r=>zfT r
 | _=>false
def zfU:List SV->Bool
 | []=>true
 | .val _::r=>zfU r
 | .agg cs::r=>qo (zfT cs) (zfU r)
 | _=>false
def ofV(v:Value):SV:=
 match v with
 | .agg a=>.agg (a.toList.map .val)
 | v=>.val v
def opV(P:Program)(Γ:List (TypeId×TI))(op:Op)(svs:List SV)(lm:Nat->Option Mem)(κ:Nat)(K:SV->MD->Prop):Prop:=
 match op,svs with
 | .move _,[s]=>K s .none
 | .assign _,[s]=>K s .none
 | .pick _ _ _,[c,a,b]=>zfR c a b K
 | .alloc e,_=>zt Γ e fun i=>K (.loc κ 0) (.push (.box e (vals i.zero)))
 | .box e _,[s]=>boxV Γ e s κ K
 | .build t ps,svs=>zdN Γ t (ps.toList.map (·.1)) svs K
 | .buildSlice t n ps,svs=>yn Γ t n (ps.toList.map (·.1)) svs κ K
 | .load t _,[s]=>zfO Γ t s lm K
 | .store t _ _,[s,v]=>zdK Γ t s v lm K
 |.nilCheck _,[s]=>(match s with
  | .loc k off=>K (.loc k off) .none
  | .ptr cs=>K (.ptr cs) .none
  | .dptr cs=>K (.dptr cs) .none
  | .eloc k sz i off=>K (.eloc k sz i off) .none
  | .ifc t s=>K (.ifc t s) .none
  | _=>False)
 | .binOp op t _ y _,[a,b]=>bin Γ op t y a b fun s=>K s .none
 | .unOp op _ _,[s]=>unV op s K
 |.convert s0 t _,[s]=>zt Γ s0 fun _=>zt Γ t fun i=>(match i.kind,s with
  | .int k,.val (.int _ n)=>za3 k n fun s=>K s .none
  | _,_=>False)
 |.makeFunc fn first caps,svs=>(match fn with
  |.func f=>(match first.isEmpty with
   | true=>K (.fn f svs) .none
   |false=>zi caps.isEmpty (match zfU svs with
    | true=>zer svs fun vs=>K (.val (.func (.func f) vs.toArray #[])) .none
    | false=>zi (kz.flats svs) (K (.bm f svs) .none)))
  | _=>False)
 | .makeSlice t _ _,[l,c]=>ue Γ t l c κ K
 | .slice t _ lo hi mx,svs=>zb0 Γ t lo hi mx svs lm κ K
 | .fieldAddr t _ f,[s]=>uc Γ t f s K
 |.field t _ f,[s]=>zt Γ t fun i=>(match i.kind,s with
  |.struct fs,.agg cs=>(match zcC fs f with
   | some (off,ft)=>zt Γ ft fun j=>zi (Nat.ble (off+j.sz) cs.length) (mkV j.kind.agg j.sz (cs.drop off) fun s=>K s .none)
   | none=>False)
  | _,_=>False)
 | .indexAddr t _ _,[s,n]=>ud Γ t s n lm K
 | .index t _ _,[s,n]=>zdM Γ t s n K
 |.extract _ n,[s]=>(match s with
  |.tup vs=>(match vs.drop n with
   | v::_=>qO v fun v=>K v .none
   | []=>False)
  | _=>False)
 | .makeInterface t _,[s]=>zag Γ t s K
 | .typeAssert _ _ t ok,[s]=>zb3 Γ t ok s K
 | .makeMap t _,svs=>zaf Γ t svs κ K
 | .mapUpdate t _ _ _,[m,k,s]=>qw Γ t m k s lm K
 | .insert t _ _ _,[m,k,s]=>qw Γ t m k s lm K
 | .lookup t _ _ ok,[m,k]=>zb1 Γ t ok m k lm K
 |.call c,svs=>(match c.callee with
  |.value _=>(match svs with
   | .fn f caps::args=>ze P lm κ f (args++caps) K
   | .val (.func (.func f) first ⟨[]⟩)::args=>ze P lm κ f (first.toList.map ofV++args) K
   | .dfn f caps::args=>ze P lm κ f (args++caps) K
   | .bm f first::args=>ze P lm κ f (first++args) K
   | _=>False)
  |.invoke _ name=>(match svs with
   | .ifc t s::args=>∃f,zb4 P t name f=true/\ze P lm κ f (s::args) K
   | _=>False)
  | .builtin b=>zae Γ b c.argTypes.toList svs lm κ K)
 | _,_=>False
def uw(M:List (Nat×Mem))(κ k:Nat):Option Mem:=
 match Nat.blt k κ with
 | true=>zl M k
 | false=>none
def zcF(d:Option Tmp)(nt:Nat)(K:Prop):Prop:=
 match d with
 | some d=>zi (Nat.blt d nt) K
 | none=>K
def yf:Op->Bool
 | .load _ _=>true
 | .store _ _ _=>true
 | .slice _ _ _ _ _=>true
 | .indexAddr _ _ _=>true
 | .mapUpdate _ _ _ _=>true
 | .insert _ _ _ _=>true
 | .lookup _ _ _ _=>true
 | .call _=>true
 | _=>false
def zfV:Op->Bool
 |.call c=>(match c.callee with
  | .builtin .append=>true
  | .builtin .copy=>true
  | _=>false)
 | _=>false
def isW:Op->Bool
 | .store _ _ _=>true
 | .mapUpdate _ _ _ _=>true
 | .insert _ _ _ _=>true
 | o=>zfV o
def yo:Op->Bool
 | .store _ _ _=>true
 | .alloc _=>true
 | .box _ _=>true
 | .buildSlice _ _ _=>true
 | .makeSlice _ _ _=>true
 | .makeMap _ _=>true
 | .mapUpdate _ _ _ _=>true
 | .insert _ _ _ _=>true
 | o=>zfV o
def zdO(acc:List Nat)(o:Oper):Nat:=o.after.toList.foldl (fun s e=>if Region.binds .any e then s|||2 ^ e.on|||acc.getD e.on 0 else s) 0
def jx(all:List Oper):Nat->List Nat
 | 0=>[]
 | j+1=>let acc:=jx all j;acc++[match all[j]? with | some o=>zdO acc o | none=>0]
def y7:List Oper->Nat->Option Tmp
 | [],_=>none
 | o::_,0=>o.dst
 | _::r,n+1=>y7 r n
def u9:List Operand->List Nat
 | []=>[]
 | .tmp t::r=>t::u9 r
 | _::r=>u9 r
def jV(all:List Oper)(o:Oper):List Nat:=
 u9 (zG o.op)++(match o.guard with
  |some (j,_)=>(match y7 all j with
   | some t=>[t]
   | none=>[])
  | none=>[])
def kZ(o:Oper):List Nat:=o.dst.toList
def yp(a b:List Nat):Bool:=a.any fun x=>b.any fun y=>Nat.beq x y
def zfd(all:List Oper)(oi oj:Oper):Bool:=
 (yo oi.op&&yf oj.op)||(yf oi.op&&isW oj.op)||yp (kZ oi) (jV all oj)||yp (kZ oi) (kZ oj)||yp (jV all oi) (kZ oj)
def zes(ops:List Oper):Bool:=
 (List.range ops.length).all fun j=>(match ops[j]? with
  | some o=>o.after.toList.all fun e=>!Region.binds .any e||Nat.blt e.on j
  | none=>true)
def jW(ops:List Oper):Bool:=
 let ms:=jx ops ops.length
 zes ops&&(List.range ops.length).all fun j=>(List.range j).all fun i=>(ms.getD j 0).testBit i||!(match ops[i]?,ops[j]? with
  | some oi,some oj=>zfd ops oi oj
  | _,_=>false)
def zb5(ops:List Oper)(i:Nat):Bool:=
 let ms:=jx ops ops.length
 (List.range ops.length).all fun j=>Nat.ble j i||(ms.getD j 0).testBit i||!(match ops[j]? with
  | some oj=>yf oj.op
  | none=>false)
def mdV(draw:Bool)(all:List Oper)(i κ:Nat)(op:Op)(md:MD)(K:Prop):Prop:=
 match draw with
 | false=>K
 |true=>(match isW op with
  |true=>(match md with
   | .drop _=>False
   | .set k _=>zi (Nat.blt k κ) K
   | .repl k _=>zi (Nat.blt k κ) K
   | .give _ _ _=>False
   | _=>K)
  |false=>(match md with
   | .none=>K
   |.push _=>(match yo op with
    | true=>K
    | false=>Dr (zb5 all i=true) K False)
   | _=>False))
def zfW(n:Nat):(Nat->Prop)->Prop:=
 Nat.rec (motive:=fun _=>(Nat->Prop)->Prop) (fun K=>K 0) (fun _ ih K=>ih fun m=>K (m+1)) n
theorem uf:∀{n:Nat} {K:Nat->Prop},zfW n K->K n
 | 0,_,h=>h
 | n+1,_,h=>uf (n:=n) h
def zb6(l:List SV):(List SV->Prop)->Prop:=
 List.rec (motive:=fun _=>(List SV->Prop)->Prop) (fun K=>K []) (fun c _ ih K=>ih fun r=>K (c::r)) l
theorem ji:∀{l:List SV} {K:List SV->Prop},zb6 l K->K l
 | [],_,h=>h
 | c::l,K,h=>ji (l:=l) (K:=fun r=>K (c::r)) h
def zb7(s:SV)(K:SV->Prop):Prop:=
 match s with
 | .agg cs=>zb6 cs fun cs=>K (.agg cs)
 | s=>K s
theorem yq{s:SV}{K:SV->Prop}(h:zb7 s K):K s:=by
 unfold zb7 at h
 split at h
 ·exact ji (K:=fun cs=>K (.agg cs)) h
 ·exact h
def zb8(md:MD)(K:MD->Prop):Prop:=
 match md with
 |.push m=>(match m with
  | .box T cs=>zb6 cs fun cs=>K (.push (.box T cs))
  | m=>K (.push m))
 |.set k m=>(match m with
  | .box T cs=>zb6 cs fun cs=>K (.set k (.box T cs))
  | m=>K (.set k m))
 | md=>K md
theorem yr{md:MD}{K:MD->Prop}(h:zb8 md K):K md:=by
 unfold zb8 at h
 split at h
 ·split at h
  ·rename_i T cs;exact ji (K:=fun cs=>K (.push (.box T cs))) h
  ·exact h
 ·rename_i k _;split at h
  ·rename_i T cs;exact ji (K:=fun cs=>K (.set k (.box T cs))) h
  ·exact h
 ·exact h
def St.withK(σ:St)(κ:Nat):St:=⟨σ.L,σ.M,κ,σ.nt,σ.n0⟩
def yu(P:Program)(Γ:List (TypeId×TI))(draw:Bool)(all:List Oper)(i:Nat)(o:Oper)(σ:St)(K:St->Prop):Prop:=
 zfW σ.nk fun κ=>evs σ.L (zG o.op) fun svs=>opV P Γ o.op svs (uw σ.M κ) κ fun s md=>zb7 s fun s=>zb8 md fun md=>mdV draw all i κ o.op md (zcF o.dst σ.nt (K ((σ.withK κ).app o.dst s md)))
def jr(o:Oper)(σ:St)(K:St->Prop):Prop:=zcF o.dst σ.nt (K (σ.app o.dst (.val undef) .none))
def jy(P:Program)(Γ:List (TypeId×TI))(draw:Bool)(all:List Oper)(l:List Oper):Nat->St->(St->Prop)->Prop:=
 List.rec (motive:=fun _=>Nat->St->(St->Prop)->Prop) (fun _ σ K=>K σ) (fun o _ ih i σ K=>match o.guard with
  | none=>yu P Γ draw all i o σ fun σ=>ih (i+1) σ K
  |some (j,want)=>(match y7 all j with
   | none=>False
   |some t=>(match ziv σ.L t with
    |some (.val (.bool true))=>(match want with
     | true=>yu P Γ draw all i o σ fun σ=>ih (i+1) σ K
     | false=>jr o σ fun σ=>ih (i+1) σ K)
    |some (.val (.bool false))=>(match want with
     | false=>yu P Γ draw all i o σ fun σ=>ih (i+1) σ K
     | true=>jr o σ fun σ=>ih (i+1) σ K)
    |some (.pr p _)=>(match want with
     | true=>Br (p->yu P Γ draw all i o (σ.put (some t) (.val (.bool true))) fun σ=>ih (i+1) σ K)
       (¬p->jr o (σ.put (some t) (.val (.bool false))) fun σ=>ih (i+1) σ K)
     | false=>Br (p->jr o (σ.put (some t) (.val (.bool true))) fun σ=>ih (i+1) σ K)
       (¬p->yu P Γ draw all i o (σ.put (some t) (.val (.bool false))) fun σ=>ih (i+1) σ K))
    | some (.val (.tuple _))=>jr o σ fun σ=>ih (i+1) σ K
    | _=>False))) l
def zhJ:SV->List Nat
 | .loc k _=>[k]
 | .own k=>[k]
 | .eloc k _ _ _=>[k]
 | .win k _ _ _=>[k]
 | _=>[]
def yw:List SV->List Nat
 | []=>[]
 | c::cs=>zhJ c++yw cs
def zah:List SV->Bool
 | []=>true
 |c::cs=>(match c with
  | .val _=>zah cs
  | .pr _ _=>zah cs
  | .sl _ _=>zah cs
  | _=>false)
def va:List SV->Bool
 | []=>true
 |c::cs=>(match c with
  | .val _=>va cs
  | .pr _ _=>va cs
  | .sl _ _=>va cs
  |.agg xs=>(match zah xs with
   | true=>va cs
   | false=>false)
  |.fn _ xs=>(match zah xs with
   | true=>va cs
   | false=>false)
  | _=>false)
def zcG(op:Op)(svs:List SV):Option (List Nat):=
 match op with
 |.call c=>(match c.callee with
  | .builtin _=>some (yw svs)
  |_=>(match va svs with
   | true=>some []
   | false=>none))
 |.store _ _ _=>(match svs with
  | s::_=>some (zhJ s)
  | []=>some [])
 | .load _ _=>some (yw svs)
 | .slice _ _ _ _ _=>some (yw svs)
 | .indexAddr _ _ _=>some (yw svs)
 | .mapUpdate _ _ _ _=>some (yw svs)
 | .insert _ _ _ _=>some (yw svs)
 | .lookup _ _ _ _=>some (yw svs)
 | _=>some []
structure Ent where
 u:Option (List Nat)
 nk:Nat
 t:List Nat
def yY(k:Nat):List Nat->Bool
 | []=>false
 | x::r=>match Nat.beq x k with
  | true=>true
  | false=>yY k r
def yx(u:Option (List Nat))(nk k:Nat):Bool:=
 match u with
 | none=>Nat.blt k nk
 | some l=>yY k l
def lmU(u:Option (List Nat))(nk:Nat)(lm:Nat->Option Mem)(k:Nat):Option Mem:=
 match yx u nk k with
 | true=>lm k
 | false=>none
def zdP(κ:Nat):Nat->List Nat
 | 0=>[]
 | n+1=>(κ+n)::zdP κ n
def vb(κ:Nat):MD->List Nat
 | .none=>[]
 | .push _=>[κ]
 | .set k _=>[k]
 | .drop k=>[k]
 | .repl k _=>[k,κ]
 | .give ks _ nn=>ks++zdP κ nn
def zet(e:Ent):List Nat->Bool
 | []=>false
 | k::r=>match yx e.u e.nk k with
  | true=>true
  | false=>match yY k e.t with
   | true=>true
   | false=>zet e r
def zeu(x:Ent):List Nat->Bool
 | []=>false
 | k::r=>match yx x.u x.nk k with
  | true=>true
  | false=>zeu x r
def zcH(x e:Ent):Bool:=
 match zet e x.t with
 | true=>true
 | false=>zeu x e.t
def prOK(m:Nat)(e:Ent):List Ent->Bool
 | []=>true
 | x::r=>(m.testBit r.length||!zcH x e)&&prOK m e r
def zai(ms:List Nat):List Ent->Bool
 | []=>true
 | e::r=>prOK (ms.getD r.length 0) e r&&zai ms r
def zaj(all:List Oper)(oi oj:Oper):Bool:=
 yp (kZ oi) (jV all oj)||yp (kZ oi) (kZ oj)||yp (jV all oi) (kZ oj)
def vc(ops:List Oper):Bool:=
 let ms:=jx ops ops.length
 zes ops&&(List.range ops.length).all fun j=>(List.range j).all fun i=>(ms.getD j 0).testBit i||!(match ops[i]?,ops[j]? with
  | some oi,some oj=>zaj ops oi oj
  | _,_=>false)
def mdD(κ:Nat)(md:MD)(K:Prop):Prop:=
 match md with
 | .drop k=>zi (Nat.blt k κ) K
 | .set k _=>zi (Nat.blt k κ) K
 | .repl k _=>zi (Nat.blt k κ) K
 | .give ks new nn=>zi (qo (newB ks κ nn new) (zbW new κ nn)) K
 | _=>K
def jj(P:Program)(Γ:List (TypeId×TI))(o:Oper)(σ:St)(K:Ent->St->Prop):Prop:=
 zfW σ.nk fun κ=>evs σ.L (zG o.op) fun svs=>opV P Γ o.op svs (lmU (zcG o.op svs) κ (uw σ.M κ)) κ fun s md=>zb7 s fun s=>zb8 md fun md=>mdD κ md (zcF o.dst σ.nt (K ⟨zcG o.op svs,κ,vb κ md⟩ ((σ.withK κ).app o.dst s md)))
def zbm:Ent:=⟨some [],0,[]⟩
def js(P:Program)(Γ:List (TypeId×TI))(all:List Oper)(l:List Oper):Nat->List Ent->St->(St->Prop)->Prop:=
 List.rec (motive:=fun _=>Nat->List Ent->St->(St->Prop)->Prop) (fun _ acc σ K=>Ob (zai (jx all all.length) acc=true) (K σ)) (fun o _ ih i acc σ K=>match o.guard with
  | none=>jj P Γ o σ fun e σ=>ih (i+1) (e::acc) σ K
  |some (j,want)=>(match y7 all j with
   | none=>False
   |some t=>(match ziv σ.L t with
    |some (.val (.bool true))=>(match want with
     | true=>jj P Γ o σ fun e σ=>ih (i+1) (e::acc) σ K
     | false=>jr o σ fun σ=>ih (i+1) (zbm::acc) σ K)
    |some (.val (.bool false))=>(match want with
     | false=>jj P Γ o σ fun e σ=>ih (i+1) (e::acc) σ K
     | true=>jr o σ fun σ=>ih (i+1) (zbm::acc) σ K)
    |some (.pr p _)=>(match want with
     | true=>Br (p->jj P Γ o (σ.put (some t) (.val (.bool true))) fun e σ=>ih (i+1) (e::acc) σ K)
       (¬p->jr o (σ.put (some t) (.val (.bool false))) fun σ=>ih (i+1) (zbm::acc) σ K)
     | false=>Br (p->jr o (σ.put (some t) (.val (.bool true))) fun σ=>ih (i+1) (zbm::acc) σ K)
       (¬p->jj P Γ o (σ.put (some t) (.val (.bool false))) fun e σ=>ih (i+1) (e::acc) σ K))
    | some (.val (.tuple _))=>jr o σ fun σ=>ih (i+1) (zbm::acc) σ K
    | _=>False))) l
inductive Ex
 | normal
 | exit (id:Nat)
 | ret
def Sub(σ σ':St):Prop:=∀(E:Env) ρ a w,Rel E σ ρ a w->∃ρ',Rel E σ' ρ' a w
def jX(P:Program)(Γ:List (TypeId×TI))(c:Code):St->(Ex->St->Prop)->Prop:=
 Code.rec (motive:=fun _=>St->(Ex->St->Prop)->Prop)
  (fun σ Q=>Q .normal σ)
  (fun _ ops draw σ Q=>match draw with
   | false=>jy P Γ false ops.toList ops.toList 0 σ (Q .normal)
   | true=>Dr (jW ops.toList=true) (jy P Γ true ops.toList ops.toList 0 σ (Q .normal))
     (Ob (vc ops.toList=true) (js P Γ ops.toList ops.toList 0 [] σ (Q .normal))))
  (fun _ _ ha hb σ Q=>ha σ fun e σ=>(match e with
   | .normal=>hb σ Q
   | .exit id=>Q (.exit id) σ
   | .ret=>Q .ret σ))
  (fun c _ _ hx hy σ Q=>ev σ.L c fun c=>(match c with
   | .val (.bool true)=>hx σ Q
   | .val (.bool false)=>hy σ Q
   | .pr p _=>Br (p->hx σ Q) (¬p->hy σ Q)
   | .anyb=>Br (hx σ Q) (hy σ Q)
   | _=>False))
  (fun id _ hc σ Q=>hc σ fun e σ=>(match e with
   | .normal=>Q .normal σ
   |.exit j=>(match Nat.beq j id with
    | true=>Q .normal σ
    | false=>Q (.exit j) σ)
   | .ret=>Q .ret σ))
  (fun _ hc σ Q=>∃(ι:Type) (S:ι->St) (I:ι->Prop) (μ:ι->Nat) (x0:ι),I x0/\Sub σ (S x0)/\
   ∀x,I x->hc (S x) fun e σ'=>(match e with
    | .normal=>∃x',I x'/\Sub σ' (S x')/\μ x' < μ x
    | .exit id=>Q (.exit id) σ'
    | .ret=>Q .ret σ'))
  (fun _ _ _ _ _ _ _ _=>False)
  (fun id σ Q=>Q (.exit id) σ)
  (fun _ hc σ Q=>hc σ Q)
  (fun _ σ Q=>Q .normal σ)
  (fun _ _ _=>False)
  (fun σ Q=>Q .ret σ)
  (fun _ _ _=>False)
  c
def zdQ(σ:St)(Γ:List (TypeId×TI))(x:ResultVar)(K:SV->Prop):Prop:=
 match x with
 |.tmp t=>(match ziv σ.L t with
  | some s=>qO s fun s=>K s
  | none=>False)
 |.cell a t=>zt Γ t fun i=>(match ziv σ.L a with
  |some (.loc k off)=>(match zl σ.M k with
   | some (.box _ cs)=>zi (Nat.ble (off+i.sz) cs.length) (mkV i.kind.agg i.sz (cs.drop off) fun s=>K s)
   | _=>False)
  | _=>False)
def zfX(σ:St)(Γ:List (TypeId×TI))(xs:List ResultVar):(List SV->Prop)->Prop:=
 List.rec (motive:=fun _=>(List SV->Prop)->Prop) (fun K=>K []) (fun x _ ih K=>zdQ σ Γ x fun s=>ih fun l=>K (s::l)) xs
def vH(σ:St)(Γ:List (TypeId×TI))(rs:List ResultVar)(K:SV->Prop):Prop:=
 zfX σ Γ rs fun l=>match l with
  | [s]=>K s
  | l=>K (.tup l)
def qq:Nat->List SV->List (Nat×SV)
 | _,[]=>[]
 | n,a::r=>(n,a)::qq (n+1) r
def zcI(lm:Nat->Option Mem)(s:SV):SV:=
 match s with
 | .tup cs=>.tup (zbT lm cs)
 | s=>vw lm s
def endV(Γ:List (TypeId×TI))(rs:List ResultVar)(r:SV)(e:Ex)(σ:St):Prop:=
 match e with
 | .exit _=>False
 | _=>vH σ Γ rs fun s=>LE (zcI (zl σ.M) s) r
inductive jY (k:Option Nat):SV->SV->Prop
 | own (k':Nat) (h:k=some k'):jY k (.own k') (.own 0)
 | loc (k' off:Nat) (h:k=some k'):jY k (.loc k' off) (.loc 0 off)
 | nil (h:k=none):jY k (.val (.slice none 0 0)) (.own 0)
 | le (s r:SV) (h:LE s r) (hf:kz r=true):jY k s r
 | junk (s:SV):jY k s .junk
 | agg (cs ds:List SV) (hl:cs.length=ds.length) (h:∀(j:Nat) (s r:SV),cs[j]? =some s->ds[j]? =some r->jY k s r):jY k (.agg cs) (.agg ds)
 | tup (cs ds:List SV) (hl:cs.length=ds.length) (h:∀(j:Nat) (s r:SV),cs[j]? =some s->ds[j]? =some r->jY k s r):jY k (.tup cs) (.tup ds)
 | fn (f:FuncId) (cs ds:List SV) (hl:cs.length=ds.length) (h:∀(j:Nat) (s r:SV),cs[j]? =some s->ds[j]? =some r->jY k s r):jY k (.fn f cs) (.fn f ds)
def zhK(M:List (Nat×Mem))(k:Option Nat)(m:Mem):Prop:=
 match k with
 | some k=>zl M k=some m/\ut m
 |none=>(match m with
  | .arr _ _ _ xs=>xs=[]
  | _=>False)
def zdR(Γ:List (TypeId×TI))(rs:List ResultVar)(r:SV)(m:Mem)(e:Ex)(σ:St):Prop:=
 match e with
 | .exit _=>False
 | _=>vH σ Γ rs fun s=>∃k,jY k s r/\zhK σ.M k m
def zhZ(Γ:List (TypeId×TI))(rs:List ResultVar)(r:SV)(m:Mem)(e:Ex)(σ:St):Prop:=
 match e with
 | .exit _=>False
 | _=>vH σ Γ rs fun s=>(zl σ.M 0=some m/\LE s r)
end Go.Gs
