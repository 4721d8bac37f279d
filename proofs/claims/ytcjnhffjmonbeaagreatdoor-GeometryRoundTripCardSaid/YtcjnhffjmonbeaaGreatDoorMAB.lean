/- The conditions that an operation, a region, a piece of code leave to be shown. -/
import Derived.Test.YtcjnhffjmonbeaaGreatDoorMA
import Derived.Test.YtcjnhffjmonbeaaGreatDoorMAA
set_option maxRecDepth 100000
set_option maxHeartbeats 8000000
set_option linter.all false
namespace Go.Gs
def zdv:Mem->Prop
 | .box _ cs=>qz.flats cs=true
 | .arr _ enc _ xs=>∀x∈xs,qz.flats (enc x)=true
 | .garr _ _ _=>False
 | .map es=>qz.flats (es.map (·.2))=true
def give(lm:Nat->Option Mem)(k:Nat)(s:SV):SV:=
 match s with
 |.loc k' off=>(match Nat.beq k' k with
  | true=>.loc 0 off
  | false=>zek lm (.loc k' off))
 |.own k'=>(match Nat.beq k' k with
  | true=>.own 0
  | false=>zek lm (.own k'))
 |.win k' sz lo n=>(match Nat.beq k' k with
  | true=>.win 0 sz lo n
  | false=>zek lm (.win k' sz lo n))
 | s=>zek lm s
def znJ(lm:Nat->Option Mem)(k:Nat):List SV->List SV
 | []=>[]
 | c::cs=>give lm k c::znJ lm k cs
def zge(k:Nat):List SV->Bool
 | []=>true
 |.loc k' _::r=>(match Nat.beq k' k with
  | true=>false
  | false=>zge k r)
 | _::r=>zge k r
def uZ(lm:Nat->Option Mem)(k:Nat):List SV->Bool
 | []=>true
 |.loc k' off::r=>(match Nat.beq k' k with
  | true=>uZ lm k r
  | false=>jw (jv lm [.loc k' off]) (uZ lm k r))
 |.own k'::r=>(match Nat.beq k' k with
  | true=>uZ lm k r
  | false=>false)
 |.win k' _ _ _::r=>(match Nat.beq k' k with
  | true=>uZ lm k r
  | false=>false)
 | .fn f cs::r=>jw (zge k cs) (jw (jv lm [.fn f cs]) (uZ lm k r))
 | s::r=>jw (jv lm [s]) (uZ lm k r)
def zdZ:Mem->Prop
 | .box _ cs=>jx.scalars cs=true
 | .arr _ enc _ xs=>∀x∈xs,jx.scalars (enc x)=true
 | .garr _ _ _=>False
 | .map es=>jx.scalars (es.map (·.2))=true
def mv(κ:Nat):SV->SV
 | .own _=>.own κ
 | .loc _ off=>.loc κ off
 | .agg cs=>.agg (mvs κ cs)
 | .tup cs=>.tup (mvs κ cs)
 | .fn f cs=>.fn f (mvs κ cs)
 | .ifc t s=>.ifc t (mv κ s)
 | s=>s
 where
 mvs (κ:Nat):List SV->List SV
  | []=>[]
  | c::cs=>mv κ c::mvs κ cs
def uk:SV->Bool
 | .own k=>Nat.beq k 0
 | .loc k _=>Nat.beq k 0
 | .val _=>true
 | .pr _ _=>true
 | .junk=>true
 | .agg cs=>mvOKs cs
 | .tup cs=>mvOKs cs
 | .fn _ cs=>mvOKs cs
 | .ifc _ s=>uk s
 | _=>false
 where
 mvOKs:List SV->Bool
  | []=>true
  | c::cs=>match uk c with
   | true=>mvOKs cs
   | false=>false
def znK:Option Mem->Bool
 | some (.arr _ _ _ _)=>true
 | _=>false
def znL(lm:Nat->Option Mem)(k:Nat):List SV->Bool
 | []=>true
 |.own k'::r=>(match Nat.beq k' k with
  | true=>znL lm k r
  | false=>false)
 | s::r=>jw (jv lm [s]) (znL lm k r)
def LE(s r:SV):Prop:=∀S Pm ρ w v,G S Pm ρ w s v->G S Pm ρ w r v
inductive LEs:List SV->List SV->Prop
 | nil:LEs [] []
 | cons {a b:SV} {za bs:List SV} (h:LE a b) (t:LEs za bs):LEs (a::za) (b::bs)
def rn(ks:List Nat)(κ j:Nat):Nat:=
 match ks[j]? with
 | some k=>k
 | none=>κ+(j - ks.length)
def y4(ks:List Nat)(κ:Nat):SV->SV
 | .loc k off=>.loc (rn ks κ k) off
 | .own k=>.own (rn ks κ k)
 | .eloc k sz i off=>.eloc (rn ks κ k) sz i off
 | .win k sz lo n=>.win (rn ks κ k) sz lo n
 | .agg cs=>.agg (rens ks κ cs)
 | .tup cs=>.tup (rens ks κ cs)
 | .fn f cs=>.fn f (rens ks κ cs)
 | .ifc t s=>.ifc t (y4 ks κ s)
 | s=>s
 where
 rens (ks:List Nat) (κ:Nat):List SV->List SV
  | []=>[]
  | c::cs=>y4 ks κ c::rens ks κ cs
def yp(n:Nat):SV->Bool
 | .loc k _=>Nat.blt k n
 | .own k=>Nat.blt k n
 | .eloc k _ _ _=>Nat.blt k n
 | .win k _ _ _=>Nat.blt k n
 | .agg cs=>lows n cs
 | .tup cs=>lows n cs
 | .fn _ cs=>lows n cs
 | .ifc _ s=>yp n s
 | _=>true
 where
 lows (n:Nat):List SV->Bool
  | []=>true
  | c::cs=>match yp n c with
   | true=>lows n cs
   | false=>false
def vA(n:Nat):SV->Bool
 | .loc k _=>Nat.blt k n
 | .own k=>Nat.blt k n
 | .eloc k _ _ _=>Nat.blt k n
 | .win k _ _ _=>Nat.blt k n
 | .ptr _=>false
 | .agg cs=>outs n cs
 | .tup cs=>outs n cs
 | .fn _ cs=>outs n cs
 | .ifc _ s=>vA n s
 | _=>true
 where
 outs (n:Nat):List SV->Bool
  | []=>true
  | c::cs=>match vA n c with
   | true=>outs n cs
   | false=>false
def zfY(ks:List Nat)(κ:Nat):Mem->Mem
 | .box T cs=>.box T (y4.rens ks κ cs)
 | .garr T sz xs=>.garr T sz (xs.map (y4.rens ks κ))
 | m=>m
def uM(ks:List Nat)(κ:Nat):List (Nat×Mem)->List (Nat×Mem)
 | []=>[]
 | (j,m)::r=>(rn ks κ j,zfY ks κ m)::uM ks κ r
def lowM(n:Nat):Mem->Prop
 | .box _ cs=>yp.lows n cs=true
 | .garr _ _ xs=>∀x∈xs,yp.lows n x=true
 | _=>True
def outM(n:Nat):Mem->Prop
 | .box _ cs=>vA.outs n cs=true
 | .garr _ _ xs=>∀x∈xs,vA.outs n x=true
 | _=>True
def zd0(lm:Nat->Option Mem)(ks0:List Nat)(κ:Nat)(Mc:List (Nat×Mem)):Nat->List Nat->Prop
 | _,[]=>True
 | i,k::r=>(∃m,zE Mc i=some m/\lm k=some (zfY ks0 κ m)/\lowM ks0.length m)/\zd0 lm ks0 κ Mc (i+1) r
def zha(n:Nat):List (Nat×Mem)->Prop
 | []=>True
 | (j,m)::r=>(Nat.blt j n=true/\outM n m)/\zha n r
def zj6(k:Nat):List Nat->Bool
 | []=>false
 | x::r=>match Nat.beq x k with
  | true=>true
  | false=>zj6 k r
def zah:List Nat->Bool
 | []=>true
 | x::r=>match zj6 x r with
  | true=>false
  | false=>zah r
def zil(n:Nat):List (Nat×Mem)->Bool
 | []=>true
 | (k,_)::r=>jw (Nat.blt k n) (zil n r)
def memM(k:Nat):List (Nat×Mem)->Bool
 | []=>false
 | (q,_)::r=>match Nat.beq q k with
  | true=>true
  | false=>memM k r
def zem:List (Nat×Mem)->Bool
 | []=>true
 | (k,_)::r=>match memM k r with
  | true=>false
  | false=>zem r
def newB(ks:List Nat)(κ nn:Nat):List (Nat×Mem)->Bool
 | []=>true
 | (k,_)::r=>jw (zj6 k ks||(Nat.ble κ k&&Nat.blt k (κ+nn))) (newB ks κ nn r)
def zhb(k:Nat):List (Nat×Mem)->Bool
 | []=>false
 | (q,_)::r=>match Nat.beq q k with
  | true=>true
  | false=>zhb k r
def zhc(new:List (Nat×Mem))(κ:Nat):Nat->Bool
 | 0=>true
 | n+1=>jw (zhb (κ+n) new) (zhc new κ n)
def zhd(l:List SV):(List SV->Prop)->Prop:=
 List.rec (motive:=fun _=>(List SV->Prop)->Prop) (fun K=>K []) (fun c _ ih K=>yX c fun c=>ih fun r=>K (c::r)) l
def zhe(m:Mem)(K:Mem->Prop):Prop:=
 match m with
 | .box T cs=>zhd cs fun cs=>K (.box T cs)
 | .arr T enc sz xs=>K (.arr T enc sz xs)
 | .garr T sz xs=>K (.garr T sz xs)
 | .map es=>K (.map es)
def zrK(n:Nat):(Nat->Prop)->Prop:=
 Nat.rec (motive:=fun _=>(Nat->Prop)->Prop) (fun K=>K 0) (fun _ ih K=>ih fun m=>K (m+1)) n
def zd1(l:List (Nat×Mem)):(List (Nat×Mem)->Prop)->Prop:=
 List.rec (motive:=fun _=>(List (Nat×Mem)->Prop)->Prop) (fun K=>K []) (fun x _ ih K=>zrK x.1 fun k=>zhe x.2 fun m=>ih fun r=>K ((k,m)::r)) l
inductive zb (P:Program) (lm:Nat->Option Mem) (κ:Nat) (f:FuncId) (args:List SV) (K:SV->MD->Prop):Prop
 | to (r:SV) (h:ze P f (zaa lm args) [] r []) (hr:zlc lm args r=true) (k:yX r fun r=>K r .none)
 | fresh (m:Mem) (r:SV) (h:ze P f (zaa lm args) [] r [(0,m)]) (hr:uk r=true) (hm:zdv m) (hc:jv lm args=true∨zdZ m) (k:yX (mv κ r) fun r=>K r (.push m))
 | see (k:Nat) (r:SV) (h:ze P f (zaa lm args) [] r []) (hk:znK (lm k)=true) (hc:znL lm k args=true) (hr:zej r=true) (kk:yX r fun r=>K r (.drop k))
 | hand (k:Nat) (m m':Mem) (r:SV) (hk:lm k=some m) (h:ze P f (znJ lm k args) [(0,m)] r [(0,m')])
   (hm:zdv m) (hm':zdv m') (hc:uZ lm k args=true) (hr:zej r=true) (k:yX r fun r=>K r (.set k m'))
 | give (ks:List Nat) (nn:Nat) (args':List SV) (Mc M':List (Nat×Mem)) (r:SV) (h:ze P f args' Mc r M') (ha:LEs args (y4.rens ks κ args')) (hl:yp.lows ks.length args'=true)
   (hn:zah ks=true) (hk:jw (Nat.beq Mc.length ks.length) (jw (zil ks.length Mc) (zem Mc))=true) (hM:zd0 lm ks κ Mc 0 ks) (hr:vA (ks.length+nn) r=true) (hM':zha (ks.length+nn) M')
   (k:zd1 (uM ks κ M') fun new=>yX (y4 ks κ r) fun r=>K r (.give ks new nn))
theorem zb.t{P:Program}{lm:Nat->Option Mem}{κ:Nat}{f:FuncId}{args:List SV}{K:SV->MD->Prop}{r:SV}(h:ze P f (zaa lm args) [] r [])(k:yX r fun r=>K r .none)(hr:zlc lm args r=true:=by rfl):zb P lm κ f args K:=.to r h hr k
def zgf(s:SV):Bool:=
 match s with
 |.val v=>(match v with
  | .agg _=>false
  | .tuple _=>false
  | _=>true)
 | .agg _=>false
 | .tup _=>false
 | .junk=>false
 | _=>true
def qp:List SV->Bool
 | []=>true
 | c::cs=>match zgf c with
  | true=>qp cs
  | false=>false
def qC(o:Option Operand)(l:List SV)(dflt:Int)(K:Int->List SV->Prop):Prop:=
 match o with
 | none=>K dflt l
 | some _=>match l with
  | .val (.int _ n)::r=>K n r
  | _=>False
def fstO(p:Option (Nat×Nat)):Nat:=
 match p with
 | some (a,_)=>a
 | none=>0
def vB(pl:Nat->Option (Nat×Nat)):List Nat->List SV->List SV->List SV
 | i::r,s::l,cs=>vB pl r l (qD cs (fstO (pl i)) (z0 s))
 | _,_,cs=>cs
def u0(pl:Nat->Option (Nat×Nat))(n:Nat):List Nat->List SV->Bool
 |i::r,s::l=>(match pl i with
  | some (off,sz)=>jw (Nat.beq (z0 s).length sz) (jw (Nat.ble (off+sz) n) (jw (qp (z0 s)) (u0 pl n r l)))
  | none=>false)
 | [],[]=>true
 | _,_=>false
def zen(Γ:List (TypeId×TI))(fs:List (Nat×TypeId))(i:Nat):Option (Nat×Nat):=
 match zij fs i with
 |some (off,ft)=>(match ti Γ ft with
  | some j=>some (off,j.sz)
  | none=>none)
 | none=>none
def yR(sz i:Nat):Option (Nat×Nat):=some (i*sz,sz)
def rep{α:Type 1}(n:Nat)(cs:List α):List α:=
 match n with
 | 0=>[]
 | n+1=>cs++rep n cs
def zbC{α:Type _}(enc:α->List SV)(xs:List α):List SV:=
 match xs with
 | []=>[]
 | x::xs=>enc x++zbC enc xs
def zrL(lm:Nat->Option Mem)(s:SV)(K:Int->Prop):Prop:=
 match s with
 | .sl _ xs=>xs.length<=9223372036854775807->K xs.length
 |.own k=>(match lm k with
  | some (.arr _ _ _ xs)=>xs.length<=281474976710656->K xs.length
  | some (.garr _ _ xs)=>xs.length<=281474976710656->K xs.length
  | _=>False)
 | .val (.slice none 0 0)=>K 0
 | .nils=>K 0
 | .win _ _ _ n=>Ob (0<=n) (K n)
 | _=>False
def zmq(s:List SV)(K:IntKind->List Int->Prop):Prop:=
 match s with
 |.val (.int k m)::r=>(match r with
  | []=>K k [m]
  | _=>zmq r fun _ l=>K k (m::l))
 | _=>False
def zbA:Int->List Int->Int
 | x,[]=>x
 | x,y::r=>zbA (min x y) r
def zb9:Int->List Int->Int
 | x,[]=>x
 | x,y::r=>zb9 (max x y) r
def vC{α:Type}(lm:Nat->Option Mem)(s:SV)(enc:α->List SV)(ys:List α):Prop:=
 match s with
 | .val (.slice none 0 0)=>ys=[]
 | .own k=>zdu lm (.own k)=.sl enc ys
 | s=>s=.sl enc ys
inductive Sl (p q:Prop) (r:Prop:=False):Prop
 | see (h:p)
 | keep (h:q)
 | win (h:r)
def zd2(Γ:List (TypeId×TI))(tys:List TypeId)(s x:SV)(lm:Nat->Option Mem)(κ:Nat)(K:SV->MD->Prop):Prop:=
 match tys with
 |[t,t']=>zA (Nat.beq t t') (zV Γ t fun i=>(match i.kind with
  |.slice e=>zV Γ e fun j=>(match s with
   | .val (.slice none 0 0)=>∃(α:Type) (enc:α->List SV) (ys:List α),vC lm x enc ys/\
     Ob ((ys.length:Int)*j.bytes<=140737488355328/\ys.length<=281474976710656/\0 < j.sz/\∀x∈ys,(enc x).length=j.sz) (K (.own κ) (.push (.arr e enc j.sz ys)))
   |.own k=>(match lm k with
    |some (.arr e' enc sz xs)=>zA (Nat.beq e e') (zA (Nat.beq sz j.sz) (∃ys,vC lm x enc ys/\
     Ob ((xs.length+ys.length:Int)*j.bytes<=140737488355328/\xs.length+ys.length<=281474976710656/\0 < j.sz/\∀x∈ys,(enc x).length=j.sz)
      (K (.own κ) (.repl k (.arr e enc sz (xs++ys))))))
    |some (.garr e' sz xs)=>zA (Nat.beq e e') (zA (Nat.beq sz j.sz) (∃(α:Type) (enc:α->List SV) (ys:List α),vC lm x enc ys/\
     Ob ((xs.length+ys.length:Int)*j.bytes<=140737488355328/\xs.length+ys.length<=281474976710656/\0 < j.sz/\∀x∈ys,(enc x).length=j.sz)
      (K (.own κ) (.repl k (.garr e sz (xs++ys.map enc))))))
    | _=>False)
   | .full enc xs=>∃ys,vC lm x enc ys/\
     Ob (ys≠[]/\(xs.length+ys.length:Int)*j.bytes<=140737488355328/\xs.length+ys.length<=281474976710656/\0 < j.sz/\(∀x∈xs,(enc x).length=j.sz)/\∀x∈ys,(enc x).length=j.sz)
      (K (.own κ) (.push (.arr e enc j.sz (xs++ys))))
   | .nils=>Sl (∃(α:Type) (enc:α->List SV) (ys:List α),vC lm x enc ys/\
     Ob (ys≠[]/\(ys.length:Int)*j.bytes<=140737488355328/\ys.length<=281474976710656/\0 < j.sz/\∀x∈ys,(enc x).length=j.sz) (K (.own κ) (.push (.arr e enc j.sz ys))))
     (∃(α:Type) (enc:α->List SV),vC lm x enc ([]:List α)/\0 < j.sz/\K .nils .none)
   | _=>False)
  | _=>False))
 | _=>False
def zeo(Γ:List (TypeId×TI))(tys:List TypeId)(s:SV)(e':TypeId)(sz':Nat)(ys:List (List SV))(lm:Nat->Option Mem)(κ:Nat)(K:SV->MD->Prop):Prop:=
 match tys with
 |[t,t']=>zA (Nat.beq t t') (zV Γ t fun i=>(match i.kind with
  |.slice e=>zV Γ e fun j=>zA (Nat.beq e e') (zA (Nat.beq sz' j.sz) (match s with
   | .val (.slice none 0 0)=>Ob ((ys.length:Int)*j.bytes<=140737488355328/\ys.length<=281474976710656/\0 < j.sz) (K (.own κ) (.push (.garr e j.sz ys)))
   |.own k=>(match lm k with
    | some (.garr e'' sz xs)=>zA (Nat.beq e e'') (zA (Nat.beq sz j.sz)
      (Ob ((xs.length+ys.length:Int)*j.bytes<=140737488355328/\xs.length+ys.length<=281474976710656/\0 < j.sz) (K (.own κ) (.repl k (.garr e sz (xs++ys))))))
    | _=>False)
   | _=>False))
  | _=>False))
 | _=>False
def zld(Γ:List (TypeId×TI))(tys:List TypeId)(s:SV)(n:Int)(κ:Nat)(K:SV->MD->Prop):Prop:=
 match tys,s with
 |[t,t'],.val (.slice none 0 0)=>zV Γ t fun i=>zV Γ t' fun i'=>(match i.kind,i'.kind with
  | .slice e,.int _=>zV Γ e fun j=>∃(α:Type) (enc:α->List SV) (z:α),
    enc z=vals j.zero/\Ob (0 < j.sz/\0 < n/\n*j.bytes<=140737488355328/\n<=281474976710656) (K (.own κ) (.push (.arr e enc j.sz (List.replicate n.toNat z))))
  | _,_=>False)
 | _,_=>False
def zca(lm:Nat->Option Mem)(k:Nat)(T:TypeId){α:Type}(enc:α->List SV)(sz:Nat)(xs:List α)(lo n:Int)(x:SV)(K:SV->MD->Prop):Prop:=
 ∃ys,vC lm x enc ys/\Ob (0 < sz/\0<=lo/\0<=n/\lo+n<=xs.length/\∀y∈ys,(enc y).length=sz)
  (K (.val (.int .i64 (min ys.length n.toNat:Nat))) (.set k (.arr T enc sz (xs.take lo.toNat++(ys.take n.toNat++xs.drop (lo.toNat+min ys.length n.toNat))))))
def zep(Γ:List (TypeId×TI))(b:Builtin)(tys:List TypeId)(args:List SV)(lm:Nat->Option Mem)(κ:Nat)(K:SV->MD->Prop):Prop:=
 match b,args with
 |.len,[s]=>(match tys with
  |[t]=>zV Γ t fun i=>(match i.kind with
   | .slice _=>zrL lm s fun n=>K (.val (.int .i64 n)) .none
   | _=>False)
  | _=>False)
 |.cap,[s]=>(match tys with
  |[t]=>zV Γ t fun i=>(match i.kind with
   |.slice _=>(match s with
    | .val (.slice none 0 0)=>K (.val (.int .i64 0)) .none
    | .nils=>K (.val (.int .i64 0)) .none
    | _=>False)
   | _=>False)
  | _=>False)
 |.min,s=>zmq s fun k l=>(match l with
  | x::r=>K (.val (.int k (zbA x r))) .none
  | []=>False)
 |.max,s=>zmq s fun k l=>(match l with
  | x::r=>K (.val (.int k (zb9 x r))) .none
  | []=>False)
 |.append,[s,x]=>(match x with
  | .val (.int _ n)=>zld Γ tys s n κ K
  |.own k'=>(match lm k' with
   | some (.garr e' sz' ys)=>zeo Γ tys s e' sz' ys lm κ K
   | _=>zd2 Γ tys s (.own k') lm κ K)
  | x=>zd2 Γ tys s x lm κ K)
 |.copy,[d,x]=>(match tys with
  |[t,_]=>zV Γ t fun i=>(match i.kind with
   |.slice e=>zV Γ e fun j=>(match d with
    |.own k=>(match lm k with
     | some (.arr T enc sz xs)=>zA (Nat.beq sz j.sz) (zca lm k T enc sz xs 0 xs.length x K)
     | _=>False)
    |.win k sz' lo n=>(match lm k with
     | some (.arr T enc sz xs)=>zA (Nat.beq sz j.sz) (zA (Nat.beq sz' sz) (zca lm k T enc sz xs lo n x K))
     | _=>False)
    | _=>False)
   | _=>False)
  | _=>False)
 |.clear,[d]=>(match tys with
  |[t]=>zV Γ t fun i=>(match i.kind with
   |.slice e=>zV Γ e fun j=>(match d with
    |.win k sz' lo n=>(match lm k with
     | some (.arr T (α:=α) enc sz xs)=>zA (Nat.beq sz j.sz) (zA (Nat.beq sz' sz) (∃z:α,enc z=vals j.zero/\
       Ob (0<=lo/\0 < n/\lo+n<=xs.length) (K (.val (.tuple #[])) (.set k (.arr T enc sz (xs.take lo.toNat++(List.replicate n.toNat z++xs.drop (lo.toNat+n.toNat))))))))
     | _=>False)
    | _=>False)
   | _=>False)
  | _=>False)
 | _,_=>False
def znM(Γ:List (TypeId×TI))(t:TypeId)(s:SV)(lm:Nat->Option Mem)(K:SV->MD->Prop):Prop:=
 zV Γ t fun i=>(match s with
  |.loc k off=>(match lm k with
   | some (.box _ cs)=>zA (Nat.ble (off+i.sz) cs.length) (mkV i.kind.agg i.sz (cs.drop off) fun s=>K s .none)
   | _=>False)
  | .ptr cs=>zA (Nat.ble i.sz cs.length) (mkV i.kind.agg i.sz cs fun s=>K s .none)
  | .dptr cs=>zA (Nat.ble i.sz cs.length) (mkV i.kind.agg i.sz cs fun s=>K s .none)
  |.eloc k sz n off=>(match lm k with
   | some (.arr _ enc sz' xs)=>zA (Nat.beq sz sz') (zA (Nat.ble (off+i.sz) sz) (Ob (0<=n/\n < xs.length) (∀x,xs[n.toNat]? =some x->
     mkV i.kind.agg i.sz ((enc x).drop off) fun s=>K s .none)))
   | some (.garr _ sz' xs)=>zA (Nat.beq sz sz') (zA (Nat.ble (off+i.sz) sz) (Ob (0<=n/\n < xs.length) (∀x,xs[n.toNat]? =some x->
     mkV i.kind.agg i.sz (x.drop off) fun s=>K s .none)))
   | _=>False)
  | _=>False)
def zj7(Γ:List (TypeId×TI))(t:TypeId)(s v:SV)(lm:Nat->Option Mem)(K:SV->MD->Prop):Prop:=
 zV Γ t fun i=>zA (qp (z0 v)) (zA (Nat.beq (z0 v).length i.sz) (match s with
  |.loc k off=>(match lm k with
   | some (.box T cs)=>zA (Nat.ble (off+i.sz) cs.length) (K (.val undef) (.set k (.box T (qD cs off (z0 v)))))
   | _=>False)
  |.eloc k sz n off=>(match lm k with
   |some (.arr T (α:=α) enc sz' xs)=>zA (Nat.beq sz sz') (zA (Nat.ble (off+i.sz) sz) (match qz.flats (z0 v) with
    |true=>(Ob (0<=n/\n < xs.length) (∀x,xs[n.toNat]? =some x->
     ∃x':α,enc x'=qD (enc x) off (z0 v)/\K (.val undef) (.set k (.arr T enc sz (xs.set n.toNat x')))))
    |false=>(Ob (0<=n/\n < xs.length) (∀x,xs[n.toNat]? =some x->
     K (.val undef) (.set k (.garr T sz ((xs.map enc).set n.toNat (qD (enc x) off (z0 v)))))))))
   | some (.garr T sz' xs)=>zA (Nat.beq sz sz') (zA (Nat.ble (off+i.sz) sz) (Ob (0<=n/\n < xs.length) (∀x,xs[n.toNat]? =some x->
     K (.val undef) (.set k (.garr T sz (xs.set n.toNat (qD x off (z0 v))))))))
   | _=>False)
  | _=>False))
def znN(hi mx:Option Operand):Bool:=
 match mx,hi with
 | some _,none=>false
 | _,_=>true
def znO:Option Operand->Bool
 |some (.const (.int _ n))=>(match n with
  | .ofNat m=>Nat.beq m 0
  | _=>false)
 | _=>false
inductive znP (p q:Prop):Prop
 | sl (h:p)
 | full (h:q)
def u1:Option Operand->Bool
 | none=>true
 | _=>false
def zj8(Γ:List (TypeId×TI))(t:TypeId)(lo hi mx:Option Operand)(svs:List SV)(lm:Nat->Option Mem)(κ:Nat)(K:SV->MD->Prop):Prop:=
 zA (znN hi mx) (match svs with
 |s::rest=>zV Γ t fun i=>(match i.kind with
  |.slice e=>zV Γ e fun j=>(match s with
   |.sl enc xs=>(match jw (znO hi) (znO mx) with
    | true=>qC lo rest 0 fun l rest=>qC hi rest 0 fun h rest=>qC mx rest 0 fun m _=>Ob (l=0/\h=0/\m=0) (K .nils .none)
    |false=>qC lo rest 0 fun l rest=>qC hi rest xs.length fun h rest=>qC mx rest xs.length fun m _=>(match u1 mx with
     | true=>Ob ((0<=l/\l<=h/\h<=m/\m<=xs.length)/\∀x∈xs,(enc x).length=j.sz) (K (.sl enc ((xs.drop l.toNat).take (h - l).toNat)) .none)
     | false=>znP (Ob ((0<=l/\l<=h/\h<=m/\m<=xs.length)/\∀x∈xs,(enc x).length=j.sz) (K (.sl enc ((xs.drop l.toNat).take (h - l).toNat)) .none))
      (Ob ((0<=l/\l<=h/\h=m/\m<=xs.length)/\∀x∈xs,(enc x).length=j.sz) (K (.full enc ((xs.drop l.toNat).take (h - l).toNat)) .none))))
   | .val (.slice none 0 0)=>qC lo rest 0 fun l rest=>qC hi rest 0 fun h rest=>qC mx rest 0 fun m _=>Ob (l=0/\h=0/\m=0) (K (.val (.slice none 0 0)) .none)
   |.own k=>(match lm k with
    |some (.arr T enc sz xs)=>zA (Nat.beq sz j.sz) (qC lo rest 0 fun l rest=>qC hi rest xs.length fun h rest=>qC mx rest xs.length fun m _=>
     Sl (Ob (0<=l/\l<=h/\h<=m/\m<=xs.length) (K (.sl enc ((xs.drop l.toNat).take (h - l).toNat)) (.drop k)))
      (zA (u1 mx) (Ob (l=0/\0<=h/\h<=xs.length) (K (.own κ) (.repl k (.arr T enc sz (xs.take h.toNat))))))
      (Ob (0<=l/\l < h/\h<=m/\m<=xs.length) (K (.win k sz l (h - l)) .none)))
    | some (.garr T sz xs)=>zA (Nat.beq sz j.sz) (zA (u1 mx) (qC lo rest 0 fun l rest=>qC hi rest xs.length fun h _=>
      (Ob (l=0/\0<=h/\h<=xs.length) (K (.own κ) (.repl k (.garr T sz (xs.take h.toNat)))))))
    | _=>False)
   | _=>False)
  | _=>False)
 | []=>False)
def zgg(Γ:List (TypeId×TI))(t:TypeId)(lo hi mx:Option Operand)(cs:List SV)(K:SV->MD->Prop):Prop:=
 zA (jw (u1 lo) (jw (u1 hi) (u1 mx))) (zV Γ t fun i=>(match i.kind with
  | .arr n e=>zV Γ e fun j=>∃(α:Type) (enc:α->List SV) (xs:List α),zbC enc xs=cs/\
    Ob (xs.length=n/\n<=281474976710656/\∀x∈xs,(enc x).length=j.sz) (K (.sl enc xs) .none)
  | _=>False))
def zhf(Γ:List (TypeId×TI))(t:TypeId)(lo hi mx:Option Operand)(svs:List SV)(lm:Nat->Option Mem)(κ:Nat)(K:SV->MD->Prop):Prop:=
 match svs with
 | [.dptr cs]=>zgg Γ t lo hi mx cs K
 | svs=>zj8 Γ t lo hi mx svs lm κ K
inductive zim (p q:Prop):Prop
 | own (h:p)
 | data (h:q)
def boxV(Γ:List (TypeId×TI))(e:TypeId)(s:SV)(κ:Nat)(K:SV->MD->Prop):Prop:=
 zA (qp (z0 s)) (match ti Γ e with
  |some i=>(match i.kind with
   |.arr _ _=>(match qz.flats (z0 s) with
    | true=>zim (K (.loc κ 0) (.push (.box e (z0 s)))) (K (.dptr (z0 s)) .none)
    | false=>K (.loc κ 0) (.push (.box e (z0 s))))
   | _=>K (.loc κ 0) (.push (.box e (z0 s))))
  | none=>K (.loc κ 0) (.push (.box e (z0 s))))
def zbP(Γ:List (TypeId×TI))(t:TypeId)(f:Nat)(s:SV)(K:SV->MD->Prop):Prop:=
 zV Γ t fun i=>(match i.kind with
  |.struct fs=>(match zij fs f with
   |some (off,ft)=>zV Γ ft fun j=>zA (Nat.blt 0 j.sz) (match s with
    | .loc k o'=>K (.loc k (o'+off)) .none
    | .ptr cs=>K (.ptr (cs.drop off)) .none
    | .dptr cs=>K (.dptr (cs.drop off)) .none
    | .eloc k sz i o'=>K (.eloc k sz i (o'+off)) .none
    | _=>False)
   | none=>False)
  | _=>False)
def zbQ(Γ:List (TypeId×TI))(t:TypeId)(s n:SV)(lm:Nat->Option Mem)(K:SV->MD->Prop):Prop:=
 zV Γ t fun i=>(match n with
  |.val (.int _ n)=>(match i.kind with
   |.slice e=>zV Γ e fun j=>(match s with
    | .sl enc xs=>Ob (0<=n/\n < xs.length) (∀x,xs[n.toNat]? =some x->zA (Nat.beq (enc x).length j.sz) (K (.ptr (enc x)) .none))
    |.own k=>(match lm k with
     | some (.arr _ _ sz xs)=>zA (Nat.beq sz j.sz) (Ob (0<=n/\n < xs.length) (K (.eloc k sz n 0) .none))
     | some (.garr _ sz xs)=>zA (Nat.beq sz j.sz) (Ob (0<=n/\n < xs.length) (K (.eloc k sz n 0) .none))
     | _=>False)
    | .win k sz lo l=>zA (Nat.beq sz j.sz) (Ob (0<=lo/\0<=n/\n < l) (K (.eloc k sz (lo+n) 0) .none))
    | _=>False)
   |.arr len e=>zV Γ e fun j=>(match n with
    |.ofNat m=>zA (Nat.blt m len) (match s with
     | .loc k off=>K (.loc k (off+m*j.sz)) .none
     | .ptr cs=>K (.ptr (cs.drop (m*j.sz))) .none
     | .dptr cs=>K (.dptr (cs.drop (m*j.sz))) .none
     | .eloc k sz i' o'=>K (.eloc k sz i' (o'+m*j.sz)) .none
     | _=>False)
    | _=>False)
   | _=>False)
  | _=>False)
def zj9(Γ:List (TypeId×TI))(t:TypeId)(s n:SV)(K:SV->MD->Prop):Prop:=
 zV Γ t fun i=>(match i.kind,s,n with
  |.arr len e,.agg cs,.val (.int _ n)=>zV Γ e fun j=>(match n with
   | .ofNat m=>zA (Nat.blt m len) (zA (Nat.ble (m*j.sz+j.sz) cs.length) (mkV j.kind.agg j.sz (cs.drop (m*j.sz)) fun s=>K s .none))
   | _=>False)
  | .str,.val (.string s),.val (.int _ n)=>Ob (0<=n/\n < s.size) (∀b:UInt8,s[n.toNat]? =some b->K (.val (.int .u8 b.toNat)) .none)
  | _,_,_=>False)
def zka(Γ:List (TypeId×TI))(t:TypeId)(ids:List Nat)(svs:List SV)(K:SV->MD->Prop):Prop:=
 zV Γ t fun i=>(match i.kind with
  | .struct fs=>zA (u0 (zen Γ fs) i.sz ids svs) (K (.agg (vB (zen Γ fs) ids svs (vals i.zero))) .none)
  | .arr _ e=>zV Γ e fun j=>zA (u0 (yR j.sz) i.sz ids svs) (K (.agg (vB (yR j.sz) ids svs (vals i.zero))) .none)
  | _=>False)
def zsi:SV->Bool
 | .loc _ _=>false
 | .own _=>false
 | .eloc _ _ _ _=>false
 | .win _ _ _ _=>false
 | .ptr _=>false
 | .agg cs=>qz.flats cs
 | _=>true
def selB:List SV->Bool
 | []=>true
 | s::r=>match zsi s with
  | true=>selB r
  | false=>false
def zai(Γ:List (TypeId×TI))(t:TypeId)(n:Nat)(ids:List Nat)(svs:List SV)(κ:Nat)(K:SV->MD->Prop):Prop:=
 zV Γ t fun i=>(match i.kind with
  | .slice e=>zV Γ e fun j=>zA (u0 (yR j.sz) (n*j.sz) ids svs) (match selB svs with
    |true=>(∃(α:Type) (enc:α->List SV) (xs:List α),
     zbC enc xs=vB (yR j.sz) ids svs (rep n (vals j.zero))/\
     Ob (xs.length=n/\n<=281474976710656/\n*j.sz<=16777216/\0 < j.sz/\∀x∈xs,(enc x).length=j.sz/\qp (enc x)=true/\qz.flats (enc x)=true) (K (.own κ) (.push (.arr e enc j.sz xs))))
    |false=>zA (qp (vB (yR j.sz) ids svs (rep n (vals j.zero)))) (∃(xs:List (List SV)),
     zbC id xs=vB (yR j.sz) ids svs (rep n (vals j.zero))/\
     Ob (xs.length=n/\n<=281474976710656/\n*j.sz<=16777216/\0 < j.sz/\∀x∈xs,x.length=j.sz) (K (.own κ) (.push (.garr e j.sz xs)))))
  | _=>False)
def zbR(Γ:List (TypeId×TI))(t:TypeId)(l c:SV)(κ:Nat)(K:SV->MD->Prop):Prop:=
 zV Γ t fun i=>(match i.kind,l,c with
  | .slice e,.val (.int _ n),.val (.int _ m)=>zV Γ e fun j=>∃(α:Type) (enc:α->List SV) (z:α),
    enc z=vals j.zero/\Ob (0 < j.sz/\0<=n/\n<=m/\m*j.bytes<=281474976710656/\m<=281474976710656) (K (.own κ) (.push (.arr e enc j.sz (List.replicate n.toNat z))))
  | _,_,_=>False)
def znQ(c a b:SV)(K:SV->MD->Prop):Prop:=
 match c with
 | .val (.bool true)=>K a .none
 | .val (.bool false)=>K b .none
 | .pr p _=>Br (p->K a .none) (¬p->K b .none)
 | _=>False
def unV(op:UnOp)(s:SV)(K:SV->MD->Prop):Prop:=
 match op,s with
 | .not,.val (.bool true)=>K (.val (.bool false)) .none
 | .not,.val (.bool false)=>K (.val (.bool true)) .none
 | .not,.pr p i=>K (.pr (¬p) (@instDecidableNot _ i)) .none
 | .neg,.val (.int k n)=>zfX k (- n) fun s=>K s .none
 | _,_=>False
def j9:Option Operand->List Operand
 | none=>[]
 | some x=>[x]
def vD:Callee->List Operand
 | .value f=>[f]
 | .invoke r _=>[r]
 | .builtin _=>[]
def z9:Op->List Operand
 | .move x=>[x]
 | .assign x=>[x]
 | .pick c a b=>[c,a,b]
 | .box _ x=>[x]
 | .build _ ps=>ps.toList.map (·.2)
 | .buildSlice _ _ ps=>ps.toList.map (·.2)
 | .load _ a=>[a]
 | .store _ a x=>[a,x]
 | .nilCheck x=>[x]
 | .binOp _ _ x y _=>[x,y]
 | .unOp _ _ x=>[x]
 | .convert _ _ x=>[x]
 | .makeFunc _ first caps=>first.toList++caps.toList
 | .makeSlice _ l c=>[l,c]
 | .makeInterface _ x=>[x]
 | .typeAssert x _ _ _=>[x]
 | .makeMap _ r=>j9 r
 | .mapUpdate _ m k x=>[m,k,x]
 | .insert _ m k x=>[m,k,x]
 | .lookup _ m k _=>[m,k]
 | .slice _ x lo hi mx=>x::(j9 lo++(j9 hi++j9 mx))
 | .fieldAddr _ x _=>[x]
 | .field _ x _=>[x]
 | .indexAddr _ x i=>[x,i]
 | .index _ x i=>[x,i]
 | .extract x _=>[x]
 | .call c=>vD c.callee++c.args.toList
 | _=>[]
def znR(es:List (Int×SV))(n:Int)(K1:SV->Prop)(K0:Prop):Prop:=
 List.rec (motive:=fun _=>Prop) K0 (fun x _ ih=>match x with
  | (k,s)=>Br (n=k->K1 s) (¬n=k->ih)) es
def znS(es:List (Int×SV))(n:Int)(s:SV):(List (Int×SV)->Prop)->Prop:=
 List.rec (motive:=fun _=>(List (Int×SV)->Prop)->Prop) (fun K=>K [(n,s)]) (fun x r ih K=>match x with
  | (k,s')=>Br (n=k->K ((n,s)::r)) (¬n=k->ih fun r'=>K ((k,s')::r'))) es
def zeq(Γ:List (TypeId×TI))(t:TypeId)(svs:List SV)(κ:Nat)(K:SV->MD->Prop):Prop:=
 zV Γ t fun i=>(match i.kind with
  |.map _ _=>(match svs with
   | []=>K (.own κ) (.push (.map []))
   | .val (.int _ _)::_=>K (.own κ) (.push (.map []))
   | _=>False)
  | _=>False)
def yq(Γ:List (TypeId×TI))(t:TypeId)(m k s:SV)(lm:Nat->Option Mem)(K:SV->MD->Prop):Prop:=
 zV Γ t fun i=>(match i.kind with
  |.map kt _=>zV Γ kt fun j=>(match j.kind,m,k with
   |.int .i64,.own c,.val (.int .i64 n)=>(match lm c with
    | some (.map es)=>zA (qz s) (znS es n s fun es'=>K (.val undef) (.set c (.map es')))
    | _=>False)
   | _,_,_=>False)
  | _=>False)
def zab(ok:Bool)(s:SV)(b:Bool)(K:SV->MD->Prop):Prop:=
 match ok with
 | true=>K (.tup [s,.val (.bool b)]) .none
 | false=>yX s fun s=>K s .none
def zhg(Γ:List (TypeId×TI))(t:TypeId)(ok:Bool)(m k:SV)(lm:Nat->Option Mem)(K:SV->MD->Prop):Prop:=
 zV Γ t fun i=>(match i.kind with
  |.map kt et=>zV Γ kt fun j=>zV Γ et fun z=>(match j.kind,m,k with
   |.int .i64,.own c,.val (.int .i64 n)=>(match lm c with
    | some (.map es)=>znR es n (fun s=>zab ok s true K) (mkV z.kind.agg z.sz (vals z.zero) fun s=>zab ok s false K)
    | _=>False)
   | _,_,_=>False)
  | _=>False)
def zer(Γ:List (TypeId×TI))(t:TypeId)(s:SV)(K:SV->MD->Prop):Prop:=
 zV Γ t fun i=>(match i.kind with
  | .iface=>False
  | .other=>False
  | _=>K (.ifc t s) .none)
def zhh(t:TypeId)(ok:Bool)(s:SV)(Z:Prop)(K:SV->MD->Prop):Prop:=
 match s with
 |.ifc t' s'=>(match Nat.beq t' t with
  | true=>zab ok s' true K
  |false=>(match ok with
   | true=>Z
   | false=>False))
 |.val .nilIface=>(match ok with
  | true=>Z
  | false=>False)
 | _=>False
def zhi(Γ:List (TypeId×TI))(t:TypeId)(ok:Bool)(s:SV)(K:SV->MD->Prop):Prop:=
 zV Γ t fun i=>(match i.kind with
  | .iface=>False
  | .other=>False
  | _=>zhh t ok s (mkV i.kind.agg i.sz (vals i.zero) fun s=>zab true s false K) K)
def zhj(P:Program)(t:TypeId)(name:String)(f:FuncId):Bool:=
 (match P.underlying t with
  | some (.struct _)=>true
  | _=>false)&&(match P.info? t with
  |some i=>(match i.methods.find? (·.name==name) with
   |some m=>m.path.isEmpty&&(match m.func with
    | some (g,p)=>Nat.beq g f&&!p
    | none=>false)
   | none=>false)
  | none=>false)
def zle:List SV->(List Value->Prop)->Prop
 | [],K=>K []
 | .val v::r,K=>zle r fun vs=>K (v::vs)
 | _,_=>False
def conc(s:SV)(K:Value->Prop):Prop:=
 match s with
 | .val v=>K v
 | .agg cs=>zle cs fun vs=>K (.agg vs.toArray)
 | _=>False
def zlf:List SV->(List Value->Prop)->Prop
 | [],K=>K []
 | s::r,K=>conc s fun v=>zlf r fun vs=>K (v::vs)
def znT:List SV->Bool
 | []=>true
 | .val _::r=>znT r
 | _=>false
def znU:List SV->Bool
 | []=>true
 | .val _::r=>znU r
 | .agg cs::r=>jw (znT cs) (znU r)
 | _=>false
def ofV(v:Value):SV:=
 match v with
 | .agg a=>.agg (a.toList.map .val)
 | v=>.val v
def opV(P:Program)(Γ:List (TypeId×TI))(op:Op)(svs:List SV)(lm:Nat->Option Mem)(κ:Nat)(K:SV->MD->Prop):Prop:=
 match op,svs with
 | .move _,[s]=>K s .none
 | .assign _,[s]=>K s .none
 | .pick _ _ _,[c,a,b]=>znQ c a b K
 | .alloc e,_=>zV Γ e fun i=>K (.loc κ 0) (.push (.box e (vals i.zero)))
 | .box e _,[s]=>boxV Γ e s κ K
 | .build t ps,svs=>zka Γ t (ps.toList.map (·.1)) svs K
 | .buildSlice t n ps,svs=>zai Γ t n (ps.toList.map (·.1)) svs κ K
 | .load t _,[s]=>znM Γ t s lm K
 | .store t _ _,[s,v]=>zj7 Γ t s v lm K
 |.nilCheck _,[s]=>(match s with
  | .loc k off=>K (.loc k off) .none
  | .ptr cs=>K (.ptr cs) .none
  | .dptr cs=>K (.dptr cs) .none
  | .eloc k sz i off=>K (.eloc k sz i off) .none
  | .ifc t s=>K (.ifc t s) .none
  | _=>False)
 | .binOp op t _ y _,[a,b]=>bin Γ op t y a b fun s=>K s .none
 | .unOp op _ _,[s]=>unV op s K
 |.convert s0 t _,[s]=>zV Γ s0 fun _=>zV Γ t fun i=>(match i.kind,s with
  | .int k,.val (.int _ n)=>zfX k n fun s=>K s .none
  | _,_=>False)
 |.makeFunc fn first caps,svs=>(match fn with
  |.func f=>(match first.isEmpty with
   | true=>K (.fn f svs) .none
   |false=>zA caps.isEmpty (match znU svs with
    | true=>zlf svs fun vs=>K (.val (.func (.func f) vs.toArray #[])) .none
    | false=>zA (qz.flats svs) (K (.bm f svs) .none)))
  | _=>False)
 | .makeSlice t _ _,[l,c]=>zbR Γ t l c κ K
 | .slice t _ lo hi mx,svs=>zhf Γ t lo hi mx svs lm κ K
 | .fieldAddr t _ f,[s]=>zbP Γ t f s K
 |.field t _ f,[s]=>zV Γ t fun i=>(match i.kind,s with
  |.struct fs,.agg cs=>(match zij fs f with
   | some (off,ft)=>zV Γ ft fun j=>zA (Nat.ble (off+j.sz) cs.length) (mkV j.kind.agg j.sz (cs.drop off) fun s=>K s .none)
   | none=>False)
  | _,_=>False)
 | .indexAddr t _ _,[s,n]=>zbQ Γ t s n lm K
 | .index t _ _,[s,n]=>zj9 Γ t s n K
 |.extract _ n,[s]=>(match s with
  |.tup vs=>(match vs.drop n with
   | v::_=>yX v fun v=>K v .none
   | []=>False)
  | _=>False)
 | .makeInterface t _,[s]=>zer Γ t s K
 | .typeAssert _ _ t ok,[s]=>zhi Γ t ok s K
 | .makeMap t _,svs=>zeq Γ t svs κ K
 | .mapUpdate t _ _ _,[m,k,s]=>yq Γ t m k s lm K
 | .insert t _ _ _,[m,k,s]=>yq Γ t m k s lm K
 | .lookup t _ _ ok,[m,k]=>zhg Γ t ok m k lm K
 |.call c,svs=>(match c.callee with
  |.value _=>(match svs with
   | .fn f caps::args=>zb P lm κ f (args++caps) K
   | .val (.func (.func f) first ⟨[]⟩)::args=>zb P lm κ f (first.toList.map ofV++args) K
   | .dfn f caps::args=>zb P lm κ f (args++caps) K
   | .bm f first::args=>zb P lm κ f (first++args) K
   | _=>False)
  |.invoke _ name=>(match svs with
   | .ifc t s::args=>∃f,zhj P t name f=true/\zb P lm κ f (s::args) K
   | _=>False)
  | .builtin b=>zep Γ b c.argTypes.toList svs lm κ K)
 | _,_=>False
def zaj(M:List (Nat×Mem))(κ k:Nat):Option Mem:=
 match Nat.blt k κ with
 | true=>zE M k
 | false=>none
def zgh(d:Option Tmp)(nt:Nat)(K:Prop):Prop:=
 match d with
 | some d=>zA (Nat.blt d nt) K
 | none=>K
def zac:Op->Bool
 | .load _ _=>true
 | .store _ _ _=>true
 | .slice _ _ _ _ _=>true
 | .indexAddr _ _ _=>true
 | .mapUpdate _ _ _ _=>true
 | .insert _ _ _ _=>true
 | .lookup _ _ _ _=>true
 | .call _=>true
 | _=>false
def znV:Op->Bool
 |.call c=>(match c.callee with
  | .builtin .append=>true
  | .builtin .copy=>true
  | _=>false)
 | _=>false
def isW:Op->Bool
 | .store _ _ _=>true
 | .mapUpdate _ _ _ _=>true
 | .insert _ _ _ _=>true
 | o=>znV o
def zak:Op->Bool
 | .store _ _ _=>true
 | .alloc _=>true
 | .box _ _=>true
 | .buildSlice _ _ _=>true
 | .makeSlice _ _ _=>true
 | .makeMap _ _=>true
 | .mapUpdate _ _ _ _=>true
 | .insert _ _ _ _=>true
 | o=>znV o
def zkb(acc:List Nat)(o:Oper):Nat:=o.after.toList.foldl (fun s e=>if Region.binds .any e then s|||2 ^ e.on|||acc.getD e.on 0 else s) 0
def uN(all:List Oper):Nat->List Nat
 | 0=>[]
 | j+1=>let acc:=uN all j;acc++[match all[j]? with | some o=>zkb acc o | none=>0]
def zal:List Oper->Nat->Option Tmp
 | [],_=>none
 | o::_,0=>o.dst
 | _::r,n+1=>zal r n
def zc4:List Operand->List Nat
 | []=>[]
 | .tmp t::r=>t::zc4 r
 | _::r=>zc4 r
def vE(all:List Oper)(o:Oper):List Nat:=
 zc4 (z9 o.op)++(match o.guard with
  |some (j,_)=>(match zal all j with
   | some t=>[t]
   | none=>[])
  | none=>[])
def jy(o:Oper):List Nat:=o.dst.toList
def zam(a b:List Nat):Bool:=a.any fun x=>b.any fun y=>Nat.beq x y
def zmr(all:List Oper)(oi oj:Oper):Bool:=
 (zak oi.op&&zac oj.op)||(zac oi.op&&isW oj.op)||zam (jy oi) (vE all oj)||zam (jy oi) (jy oj)||zam (vE all oi) (jy oj)
def zd3(ops:List Oper):Bool:=
 (List.range ops.length).all fun j=>(match ops[j]? with
  | some o=>o.after.toList.all fun e=>!Region.binds .any e||Nat.blt e.on j
  | none=>true)
def ya(ops:List Oper):Bool:=
 let ms:=uN ops ops.length
 zd3 ops&&(List.range ops.length).all fun j=>(List.range j).all fun i=>(ms.getD j 0).testBit i||!(match ops[i]?,ops[j]? with
  | some oi,some oj=>zmr ops oi oj
  | _,_=>false)
def zhk(ops:List Oper)(i:Nat):Bool:=
 let ms:=uN ops ops.length
 (List.range ops.length).all fun j=>Nat.ble j i||(ms.getD j 0).testBit i||!(match ops[j]? with
  | some oj=>zac oj.op
  | none=>false)
def mdV(draw:Bool)(all:List Oper)(i κ:Nat)(op:Op)(md:MD)(K:Prop):Prop:=
 match draw with
 | false=>K
 |true=>(match isW op with
  |true=>(match md with
   | .drop _=>False
   | .set k _=>zA (Nat.blt k κ) K
   | .repl k _=>zA (Nat.blt k κ) K
   | .give _ _ _=>False
   | _=>K)
  |false=>(match md with
   | .none=>K
   |.push _=>(match zak op with
    | true=>K
    | false=>Dr (zhk all i=true) K False)
   | _=>False))
def znW(n:Nat):(Nat->Prop)->Prop:=
 Nat.rec (motive:=fun _=>(Nat->Prop)->Prop) (fun K=>K 0) (fun _ ih K=>ih fun m=>K (m+1)) n
theorem zbS:∀{n:Nat} {K:Nat->Prop},znW n K->K n
 | 0,_,h=>h
 | n+1,_,h=>zbS (n:=n) h
def zhl(l:List SV):(List SV->Prop)->Prop:=
 List.rec (motive:=fun _=>(List SV->Prop)->Prop) (fun K=>K []) (fun c _ ih K=>ih fun r=>K (c::r)) l
theorem uO:∀{l:List SV} {K:List SV->Prop},zhl l K->K l
 | [],_,h=>h
 | c::l,K,h=>uO (l:=l) (K:=fun r=>K (c::r)) h
def zhm(s:SV)(K:SV->Prop):Prop:=
 match s with
 | .agg cs=>zhl cs fun cs=>K (.agg cs)
 | s=>K s
theorem zan{s:SV}{K:SV->Prop}(h:zhm s K):K s:=by
 unfold zhm at h
 split at h
 ·exact uO (K:=fun cs=>K (.agg cs)) h
 ·exact h
def zhn(md:MD)(K:MD->Prop):Prop:=
 match md with
 |.push m=>(match m with
  | .box T cs=>zhl cs fun cs=>K (.push (.box T cs))
  | m=>K (.push m))
 |.set k m=>(match m with
  | .box T cs=>zhl cs fun cs=>K (.set k (.box T cs))
  | m=>K (.set k m))
 | md=>K md
theorem zao{md:MD}{K:MD->Prop}(h:zhn md K):K md:=by
 unfold zhn at h
 split at h
 ·split at h
  ·rename_i T cs;exact uO (K:=fun cs=>K (.push (.box T cs))) h
  ·exact h
 ·rename_i k _;split at h
  ·rename_i T cs;exact uO (K:=fun cs=>K (.set k (.box T cs))) h
  ·exact h
 ·exact h
def St.withK(σ:St)(κ:Nat):St:=⟨σ.L,σ.M,κ,σ.nt,σ.n0⟩
def zap(P:Program)(Γ:List (TypeId×TI))(draw:Bool)(all:List Oper)(i:Nat)(o:Oper)(σ:St)(K:St->Prop):Prop:=
 znW σ.nk fun κ=>evs σ.L (z9 o.op) fun svs=>opV P Γ o.op svs (zaj σ.M κ) κ fun s md=>zhm s fun s=>zhn md fun md=>mdV draw all i κ o.op md (zgh o.dst σ.nt (K ((σ.withK κ).app o.dst s md)))
def yS(o:Oper)(σ:St)(K:St->Prop):Prop:=zgh o.dst σ.nt (K (σ.app o.dst (.val undef) .none))
def jY(P:Program)(Γ:List (TypeId×TI))(draw:Bool)(all:List Oper)(l:List Oper):Nat->St->(St->Prop)->Prop:=
 List.rec (motive:=fun _=>Nat->St->(St->Prop)->Prop) (fun _ σ K=>K σ) (fun o _ ih i σ K=>match o.guard with
  | none=>zap P Γ draw all i o σ fun σ=>ih (i+1) σ K
  |some (j,want)=>(match zal all j with
   | none=>False
   |some t=>(match z8 σ.L t with
    |some (.val (.bool true))=>(match want with
     | true=>zap P Γ draw all i o σ fun σ=>ih (i+1) σ K
     | false=>yS o σ fun σ=>ih (i+1) σ K)
    |some (.val (.bool false))=>(match want with
     | false=>zap P Γ draw all i o σ fun σ=>ih (i+1) σ K
     | true=>yS o σ fun σ=>ih (i+1) σ K)
    |some (.pr p _)=>(match want with
     | true=>Br (p->zap P Γ draw all i o (σ.put (some t) (.val (.bool true))) fun σ=>ih (i+1) σ K)
       (¬p->yS o (σ.put (some t) (.val (.bool false))) fun σ=>ih (i+1) σ K)
     | false=>Br (p->yS o (σ.put (some t) (.val (.bool true))) fun σ=>ih (i+1) σ K)
       (¬p->zap P Γ draw all i o (σ.put (some t) (.val (.bool false))) fun σ=>ih (i+1) σ K))
    | some (.val (.tuple _))=>yS o σ fun σ=>ih (i+1) σ K
    | _=>False))) l
def zrM:SV->List Nat
 | .loc k _=>[k]
 | .own k=>[k]
 | .eloc k _ _ _=>[k]
 | .win k _ _ _=>[k]
 | _=>[]
def zaq:List SV->List Nat
 | []=>[]
 | c::cs=>zrM c++zaq cs
def zes:List SV->Bool
 | []=>true
 |c::cs=>(match c with
  | .val _=>zes cs
  | .pr _ _=>zes cs
  | .sl _ _=>zes cs
  | _=>false)
def zc5:List SV->Bool
 | []=>true
 |c::cs=>(match c with
  | .val _=>zc5 cs
  | .pr _ _=>zc5 cs
  | .sl _ _=>zc5 cs
  |.agg xs=>(match zes xs with
   | true=>zc5 cs
   | false=>false)
  |.fn _ xs=>(match zes xs with
   | true=>zc5 cs
   | false=>false)
  | _=>false)
def zin(op:Op)(svs:List SV):Option (List Nat):=
 match op with
 |.call c=>(match c.callee with
  | .builtin _=>some (zaq svs)
  |_=>(match zc5 svs with
   | true=>some []
   | false=>none))
 |.store _ _ _=>(match svs with
  | s::_=>some (zrM s)
  | []=>some [])
 | .load _ _=>some (zaq svs)
 | .slice _ _ _ _ _=>some (zaq svs)
 | .indexAddr _ _ _=>some (zaq svs)
 | .mapUpdate _ _ _ _=>some (zaq svs)
 | .insert _ _ _ _=>some (zaq svs)
 | .lookup _ _ _ _=>some (zaq svs)
 | _=>some []
structure Ent where
 u:Option (List Nat)
 nk:Nat
 t:List Nat
def zbB(k:Nat):List Nat->Bool
 | []=>false
 | x::r=>match Nat.beq x k with
  | true=>true
  | false=>zbB k r
def zar(u:Option (List Nat))(nk k:Nat):Bool:=
 match u with
 | none=>Nat.blt k nk
 | some l=>zbB k l
def lmU(u:Option (List Nat))(nk:Nat)(lm:Nat->Option Mem)(k:Nat):Option Mem:=
 match zar u nk k with
 | true=>lm k
 | false=>none
def zkc(κ:Nat):Nat->List Nat
 | 0=>[]
 | n+1=>(κ+n)::zkc κ n
def zc6(κ:Nat):MD->List Nat
 | .none=>[]
 | .push _=>[κ]
 | .set k _=>[k]
 | .drop k=>[k]
 | .repl k _=>[k,κ]
 | .give ks _ nn=>ks++zkc κ nn
def zlg(e:Ent):List Nat->Bool
 | []=>false
 | k::r=>match zar e.u e.nk k with
  | true=>true
  | false=>match zbB k e.t with
   | true=>true
   | false=>zlg e r
def zlh(x:Ent):List Nat->Bool
 | []=>false
 | k::r=>match zar x.u x.nk k with
  | true=>true
  | false=>zlh x r
def zio(x e:Ent):Bool:=
 match zlg e x.t with
 | true=>true
 | false=>zlh x e.t
def prOK(m:Nat)(e:Ent):List Ent->Bool
 | []=>true
 | x::r=>(m.testBit r.length||!zio x e)&&prOK m e r
def zet(ms:List Nat):List Ent->Bool
 | []=>true
 | e::r=>prOK (ms.getD r.length 0) e r&&zet ms r
def zeu(all:List Oper)(oi oj:Oper):Bool:=
 zam (jy oi) (vE all oj)||zam (jy oi) (jy oj)||zam (vE all oi) (jy oj)
def zbT(ops:List Oper):Bool:=
 let ms:=uN ops ops.length
 zd3 ops&&(List.range ops.length).all fun j=>(List.range j).all fun i=>(ms.getD j 0).testBit i||!(match ops[i]?,ops[j]? with
  | some oi,some oj=>zeu ops oi oj
  | _,_=>false)
def mdD(κ:Nat)(md:MD)(K:Prop):Prop:=
 match md with
 | .drop k=>zA (Nat.blt k κ) K
 | .set k _=>zA (Nat.blt k κ) K
 | .repl k _=>zA (Nat.blt k κ) K
 | .give ks new nn=>zA (jw (newB ks κ nn new) (zhc new κ nn)) K
 | _=>K
def uP(P:Program)(Γ:List (TypeId×TI))(o:Oper)(σ:St)(K:Ent->St->Prop):Prop:=
 znW σ.nk fun κ=>evs σ.L (z9 o.op) fun svs=>opV P Γ o.op svs (lmU (zin o.op svs) κ (zaj σ.M κ)) κ fun s md=>zhm s fun s=>zhn md fun md=>mdD κ md (zgh o.dst σ.nt (K ⟨zin o.op svs,κ,zc6 κ md⟩ ((σ.withK κ).app o.dst s md)))
def zgi:Ent:=⟨some [],0,[]⟩
def ul(P:Program)(Γ:List (TypeId×TI))(all:List Oper)(l:List Oper):Nat->List Ent->St->(St->Prop)->Prop:=
 List.rec (motive:=fun _=>Nat->List Ent->St->(St->Prop)->Prop) (fun _ acc σ K=>Ob (zet (uN all all.length) acc=true) (K σ)) (fun o _ ih i acc σ K=>match o.guard with
  | none=>uP P Γ o σ fun e σ=>ih (i+1) (e::acc) σ K
  |some (j,want)=>(match zal all j with
   | none=>False
   |some t=>(match z8 σ.L t with
    |some (.val (.bool true))=>(match want with
     | true=>uP P Γ o σ fun e σ=>ih (i+1) (e::acc) σ K
     | false=>yS o σ fun σ=>ih (i+1) (zgi::acc) σ K)
    |some (.val (.bool false))=>(match want with
     | false=>uP P Γ o σ fun e σ=>ih (i+1) (e::acc) σ K
     | true=>yS o σ fun σ=>ih (i+1) (zgi::acc) σ K)
    |some (.pr p _)=>(match want with
     | true=>Br (p->uP P Γ o (σ.put (some t) (.val (.bool true))) fun e σ=>ih (i+1) (e::acc) σ K)
       (¬p->yS o (σ.put (some t) (.val (.bool false))) fun σ=>ih (i+1) (zgi::acc) σ K)
     | false=>Br (p->yS o (σ.put (some t) (.val (.bool true))) fun σ=>ih (i+1) (zgi::acc) σ K)
       (¬p->uP P Γ o (σ.put (some t) (.val (.bool false))) fun e σ=>ih (i+1) (e::acc) σ K))
    | some (.val (.tuple _))=>yS o σ fun σ=>ih (i+1) (zgi::acc) σ K
    | _=>False))) l
inductive Ex
 | normal
 | exit (id:Nat)
 | ret
def Sub(σ σ':St):Prop:=∀(E:Env) ρ a w,Rel E σ ρ a w->∃ρ',Rel E σ' ρ' a w
def ztB(P:Program)(Γ:List (TypeId×TI))(c:Code):St->(Ex->St->Prop)->Prop:=
 Code.rec (motive:=fun _=>St->(Ex->St->Prop)->Prop)
  (fun σ Q=>Q .normal σ)
  (fun _ ops draw σ Q=>match draw with
   | false=>jY P Γ false ops.toList ops.toList 0 σ (Q .normal)
   | true=>Dr (ya ops.toList=true) (jY P Γ true ops.toList ops.toList 0 σ (Q .normal))
     (Ob (zbT ops.toList=true) (ul P Γ ops.toList ops.toList 0 [] σ (Q .normal))))
  (fun _ _ ha hb σ Q=>ha σ fun e σ=>(match e with
   | .normal=>hb σ Q
   | .exit id=>Q (.exit id) σ
   | .ret=>Q .ret σ))
  (fun c _ _ hx hy σ Q=>ev σ.L c fun c=>(match c with
   | .val (.bool true)=>hx σ Q
   | .val (.bool false)=>hy σ Q
   | .pr p _=>Br (p->hx σ Q) (¬p->hy σ Q)
   | .anyb=>Br (hx σ Q) (hy σ Q)
   | _=>False))
  (fun id _ hc σ Q=>hc σ fun e σ=>(match e with
   | .normal=>Q .normal σ
   |.exit j=>(match Nat.beq j id with
    | true=>Q .normal σ
    | false=>Q (.exit j) σ)
   | .ret=>Q .ret σ))
  (fun _ hc σ Q=>∃(ι:Type) (S:ι->St) (I:ι->Prop) (μ:ι->Nat) (x0:ι),I x0/\Sub σ (S x0)/\
   ∀x,I x->hc (S x) fun e σ'=>(match e with
    | .normal=>∃x',I x'/\Sub σ' (S x')/\μ x' < μ x
    | .exit id=>Q (.exit id) σ'
    | .ret=>Q .ret σ'))
  (fun _ _ _ _ _ _ _ _=>False)
  (fun id σ Q=>Q (.exit id) σ)
  (fun _ hc σ Q=>hc σ Q)
  (fun _ σ Q=>Q .normal σ)
  (fun _ _ _=>False)
  (fun σ Q=>Q .ret σ)
  (fun _ _ _=>False)
  c
def zkd(σ:St)(Γ:List (TypeId×TI))(x:ResultVar)(K:SV->Prop):Prop:=
 match x with
 |.tmp t=>(match z8 σ.L t with
  | some s=>yX s fun s=>K s
  | none=>False)
 |.cell a t=>zV Γ t fun i=>(match z8 σ.L a with
  |some (.loc k off)=>(match zE σ.M k with
   | some (.box _ cs)=>zA (Nat.ble (off+i.sz) cs.length) (mkV i.kind.agg i.sz (cs.drop off) fun s=>K s)
   | _=>False)
  | _=>False)
def znX(σ:St)(Γ:List (TypeId×TI))(xs:List ResultVar):(List SV->Prop)->Prop:=
 List.rec (motive:=fun _=>(List SV->Prop)->Prop) (fun K=>K []) (fun x _ ih K=>zkd σ Γ x fun s=>ih fun l=>K (s::l)) xs
def vF(σ:St)(Γ:List (TypeId×TI))(rs:List ResultVar)(K:SV->Prop):Prop:=
 znX σ Γ rs fun l=>match l with
  | [s]=>K s
  | l=>K (.tup l)
def qE:Nat->List SV->List (Nat×SV)
 | _,[]=>[]
 | n,a::r=>(n,a)::qE (n+1) r
def zgj(lm:Nat->Option Mem)(s:SV):SV:=
 match s with
 | .tup cs=>.tup (zg9 lm cs)
 | s=>zdu lm s
def endV(Γ:List (TypeId×TI))(rs:List ResultVar)(r:SV)(e:Ex)(σ:St):Prop:=
 match e with
 | .exit _=>False
 | _=>vF σ Γ rs fun s=>LE (zgj (zE σ.M) s) r
inductive u3 (k:Option Nat):SV->SV->Prop
 | own (k':Nat) (h:k=some k'):u3 k (.own k') (.own 0)
 | loc (k' off:Nat) (h:k=some k'):u3 k (.loc k' off) (.loc 0 off)
 | nil (h:k=none):u3 k (.val (.slice none 0 0)) (.own 0)
 | le (s r:SV) (h:LE s r) (hf:qz r=true):u3 k s r
 | junk (s:SV):u3 k s .junk
 | agg (cs ds:List SV) (hl:cs.length=ds.length) (h:∀(j:Nat) (s r:SV),cs[j]? =some s->ds[j]? =some r->u3 k s r):u3 k (.agg cs) (.agg ds)
 | tup (cs ds:List SV) (hl:cs.length=ds.length) (h:∀(j:Nat) (s r:SV),cs[j]? =some s->ds[j]? =some r->u3 k s r):u3 k (.tup cs) (.tup ds)
 | fn (f:FuncId) (cs ds:List SV) (hl:cs.length=ds.length) (h:∀(j:Nat) (s r:SV),cs[j]? =some s->ds[j]? =some r->u3 k s r):u3 k (.fn f cs) (.fn f ds)
def zrN(M:List (Nat×Mem))(k:Option Nat)(m:Mem):Prop:=
 match k with
 | some k=>zE M k=some m/\zdv m
 |none=>(match m with
  | .arr _ _ _ xs=>xs=[]
  | _=>False)
def zke(Γ:List (TypeId×TI))(rs:List ResultVar)(r:SV)(m:Mem)(e:Ex)(σ:St):Prop:=
 match e with
 | .exit _=>False
 | _=>vF σ Γ rs fun s=>∃k,u3 k s r/\zrN σ.M k m
def zsj(Γ:List (TypeId×TI))(rs:List ResultVar)(r:SV)(m:Mem)(e:Ex)(σ:St):Prop:=
 match e with
 | .exit _=>False
 | _=>vF σ Γ rs fun s=>(zE σ.M 0=some m/\LE s r)
end Go.Gs
