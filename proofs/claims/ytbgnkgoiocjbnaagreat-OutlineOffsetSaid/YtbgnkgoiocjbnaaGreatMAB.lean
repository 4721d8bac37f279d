/- The conditions that an operation, a region, a piece of code leave to be shown. -/
import Derived.Test.YtbgnkgoiocjbnaaGreatMA
import Derived.Test.YtbgnkgoiocjbnaaGreatMAA
set_option maxRecDepth 100000
set_option maxHeartbeats 8000000
set_option linter.all false
namespace Go.Gs
def zfJ:Mem->Prop
 | .box _ cs=>j5.flats cs=true
 | .arr _ enc _ xs=>∀x∈xs,j5.flats (enc x)=true
 | .garr _ _ _=>False
 | .map es=>j5.flats (es.map (·.2))=true
def give(lm:Nat->Option Mem)(k:Nat)(s:SV):SV:=
 match s with
 |.loc k' off=>(match Nat.beq k' k with
  | true=>.loc 0 off
  | false=>zfI lm (.loc k' off))
 |.own k'=>(match Nat.beq k' k with
  | true=>.own 0
  | false=>zfI lm (.own k'))
 |.win k' sz lo n=>(match Nat.beq k' k with
  | true=>.win 0 sz lo n
  | false=>zfI lm (.win k' sz lo n))
 | s=>zfI lm s
def zqh(lm:Nat->Option Mem)(k:Nat):List SV->List SV
 | []=>[]
 | c::cs=>give lm k c::zqh lm k cs
def zhI(k:Nat):List SV->Bool
 | []=>true
 |.loc k' _::r=>(match Nat.beq k' k with
  | true=>false
  | false=>zhI k r)
 | _::r=>zhI k r
def zaa(lm:Nat->Option Mem)(k:Nat):List SV->Bool
 | []=>true
 |.loc k' off::r=>(match Nat.beq k' k with
  | true=>zaa lm k r
  | false=>yn (yk lm [.loc k' off]) (zaa lm k r))
 |.own k'::r=>(match Nat.beq k' k with
  | true=>zaa lm k r
  | false=>false)
 |.win k' _ _ _::r=>(match Nat.beq k' k with
  | true=>zaa lm k r
  | false=>false)
 | .fn f cs::r=>yn (zhI k cs) (yn (yk lm [.fn f cs]) (zaa lm k r))
 | s::r=>yn (yk lm [s]) (zaa lm k r)
def zfn:Mem->Prop
 | .box _ cs=>yo.scalars cs=true
 | .arr _ enc _ xs=>∀x∈xs,yo.scalars (enc x)=true
 | .garr _ _ _=>False
 | .map es=>yo.scalars (es.map (·.2))=true
def mv(κ:Nat):SV->SV
 | .own _=>.own κ
 | .loc _ off=>.loc κ off
 | .agg cs=>.agg (mvs κ cs)
 | .tup cs=>.tup (mvs κ cs)
 | .fn f cs=>.fn f (mvs κ cs)
 | .ifc t s=>.ifc t (mv κ s)
 | s=>s
 where
 mvs (κ:Nat):List SV->List SV
  | []=>[]
  | c::cs=>mv κ c::mvs κ cs
def vQ:SV->Bool
 | .own k=>Nat.beq k 0
 | .loc k _=>Nat.beq k 0
 | .val _=>true
 | .pr _ _=>true
 | .junk=>true
 | .agg cs=>mvOKs cs
 | .tup cs=>mvOKs cs
 | .fn _ cs=>mvOKs cs
 | .ifc _ s=>vQ s
 | _=>false
 where
 mvOKs:List SV->Bool
  | []=>true
  | c::cs=>match vQ c with
   | true=>mvOKs cs
   | false=>false
def zqi:Option Mem->Bool
 | some (.arr _ _ _ _)=>true
 | _=>false
def zqj(lm:Nat->Option Mem)(k:Nat):List SV->Bool
 | []=>true
 |.own k'::r=>(match Nat.beq k' k with
  | true=>zqj lm k r
  | false=>false)
 | s::r=>yn (yk lm [s]) (zqj lm k r)
def LE(s r:SV):Prop:=∀S Pm ρ w v,G S Pm ρ w s v->G S Pm ρ w r v
inductive LEs:List SV->List SV->Prop
 | nil:LEs [] []
 | cons {a b:SV} {za bs:List SV} (h:LE a b) (t:LEs za bs):LEs (a::za) (b::bs)
def rn(ks:List Nat)(κ j:Nat):Nat:=
 match ks[j]? with
 | some k=>k
 | none=>κ+(j - ks.length)
def u0(ks:List Nat)(κ:Nat):SV->SV
 | .loc k off=>.loc (rn ks κ k) off
 | .own k=>.own (rn ks κ k)
 | .eloc k sz i off=>.eloc (rn ks κ k) sz i off
 | .win k sz lo n=>.win (rn ks κ k) sz lo n
 | .agg cs=>.agg (rens ks κ cs)
 | .tup cs=>.tup (rens ks κ cs)
 | .fn f cs=>.fn f (rens ks κ cs)
 | .ifc t s=>.ifc t (u0 ks κ s)
 | s=>s
 where
 rens (ks:List Nat) (κ:Nat):List SV->List SV
  | []=>[]
  | c::cs=>u0 ks κ c::rens ks κ cs
def ua(n:Nat):SV->Bool
 | .loc k _=>Nat.blt k n
 | .own k=>Nat.blt k n
 | .eloc k _ _ _=>Nat.blt k n
 | .win k _ _ _=>Nat.blt k n
 | .agg cs=>lows n cs
 | .tup cs=>lows n cs
 | .fn _ cs=>lows n cs
 | .ifc _ s=>ua n s
 | _=>true
 where
 lows (n:Nat):List SV->Bool
  | []=>true
  | c::cs=>match ua n c with
   | true=>lows n cs
   | false=>false
def zaO(n:Nat):SV->Bool
 | .loc k _=>Nat.blt k n
 | .own k=>Nat.blt k n
 | .eloc k _ _ _=>Nat.blt k n
 | .win k _ _ _=>Nat.blt k n
 | .ptr _=>false
 | .agg cs=>outs n cs
 | .tup cs=>outs n cs
 | .fn _ cs=>outs n cs
 | .ifc _ s=>zaO n s
 | _=>true
 where
 outs (n:Nat):List SV->Bool
  | []=>true
  | c::cs=>match zaO n c with
   | true=>outs n cs
   | false=>false
def zhA(ks:List Nat)(κ:Nat):Mem->Mem
 | .box T cs=>.box T (u0.rens ks κ cs)
 | .garr T sz xs=>.garr T sz (xs.map (u0.rens ks κ))
 | m=>m
def vS(ks:List Nat)(κ:Nat):List (Nat×Mem)->List (Nat×Mem)
 | []=>[]
 | (j,m)::r=>(rn ks κ j,zhA ks κ m)::vS ks κ r
def lowM(n:Nat):Mem->Prop
 | .box _ cs=>ua.lows n cs=true
 | .garr _ _ xs=>∀x∈xs,ua.lows n x=true
 | _=>True
def outM(n:Nat):Mem->Prop
 | .box _ cs=>zaO.outs n cs=true
 | .garr _ _ xs=>∀x∈xs,zaO.outs n x=true
 | _=>True
def zfo(lm:Nat->Option Mem)(ks0:List Nat)(κ:Nat)(Mc:List (Nat×Mem)):Nat->List Nat->Prop
 | _,[]=>True
 | i,k::r=>(∃m,zO Mc i=some m/\lm k=some (zhA ks0 κ m)/\lowM ks0.length m)/\zfo lm ks0 κ Mc (i+1) r
def zi9(n:Nat):List (Nat×Mem)->Prop
 | []=>True
 | (j,m)::r=>(Nat.blt j n=true/\outM n m)/\zi9 n r
def zmp(k:Nat):List Nat->Bool
 | []=>false
 | x::r=>match Nat.beq x k with
  | true=>true
  | false=>zmp k r
def zbr:List Nat->Bool
 | []=>true
 | x::r=>match zmp x r with
  | true=>false
  | false=>zbr r
def zkp(n:Nat):List (Nat×Mem)->Bool
 | []=>true
 | (k,_)::r=>yn (Nat.blt k n) (zkp n r)
def memM(k:Nat):List (Nat×Mem)->Bool
 | []=>false
 | (q,_)::r=>match Nat.beq q k with
  | true=>true
  | false=>memM k r
def zfK:List (Nat×Mem)->Bool
 | []=>true
 | (k,_)::r=>match memM k r with
  | true=>false
  | false=>zfK r
def newB(ks:List Nat)(κ nn:Nat):List (Nat×Mem)->Bool
 | []=>true
 | (k,_)::r=>yn (zmp k ks||(Nat.ble κ k&&Nat.blt k (κ+nn))) (newB ks κ nn r)
def zja(k:Nat):List (Nat×Mem)->Bool
 | []=>false
 | (q,_)::r=>match Nat.beq q k with
  | true=>true
  | false=>zja k r
def zjb(new:List (Nat×Mem))(κ:Nat):Nat->Bool
 | 0=>true
 | n+1=>yn (zja (κ+n) new) (zjb new κ n)
def zjc(l:List SV):(List SV->Prop)->Prop:=
 List.rec (motive:=fun _=>(List SV->Prop)->Prop) (fun K=>K []) (fun c _ ih K=>uV c fun c=>ih fun r=>K (c::r)) l
def zjd(m:Mem)(K:Mem->Prop):Prop:=
 match m with
 | .box T cs=>zjc cs fun cs=>K (.box T cs)
 | .arr T enc sz xs=>K (.arr T enc sz xs)
 | .garr T sz xs=>K (.garr T sz xs)
 | .map es=>K (.map es)
def zua(n:Nat):(Nat->Prop)->Prop:=
 Nat.rec (motive:=fun _=>(Nat->Prop)->Prop) (fun K=>K 0) (fun _ ih K=>ih fun m=>K (m+1)) n
def zfp(l:List (Nat×Mem)):(List (Nat×Mem)->Prop)->Prop:=
 List.rec (motive:=fun _=>(List (Nat×Mem)->Prop)->Prop) (fun K=>K []) (fun x _ ih K=>zua x.1 fun k=>zjd x.2 fun m=>ih fun r=>K ((k,m)::r)) l
inductive zb (P:Program) (lm:Nat->Option Mem) (κ:Nat) (f:FuncId) (args:List SV) (K:SV->MD->Prop):Prop
 | to (r:SV) (h:zd P f (zbg lm args) [] r []) (hr:znB lm args r=true) (k:uV r fun r=>K r .none)
 | fresh (m:Mem) (r:SV) (h:zd P f (zbg lm args) [] r [(0,m)]) (hr:vQ r=true) (hm:zfJ m) (hc:yk lm args=true∨zfn m) (k:uV (mv κ r) fun r=>K r (.push m))
 | see (k:Nat) (r:SV) (h:zd P f (zbg lm args) [] r []) (hk:zqi (lm k)=true) (hc:zqj lm k args=true) (hr:zeO r=true) (kk:uV r fun r=>K r (.drop k))
 | hand (k:Nat) (m m':Mem) (r:SV) (hk:lm k=some m) (h:zd P f (zqh lm k args) [(0,m)] r [(0,m')])
   (hm:zfJ m) (hm':zfJ m') (hc:zaa lm k args=true) (hr:zeO r=true) (k:uV r fun r=>K r (.set k m'))
 | give (ks:List Nat) (nn:Nat) (args':List SV) (Mc M':List (Nat×Mem)) (r:SV) (h:zd P f args' Mc r M') (ha:LEs args (u0.rens ks κ args')) (hl:ua.lows ks.length args'=true)
   (hn:zbr ks=true) (hk:yn (Nat.beq Mc.length ks.length) (yn (zkp ks.length Mc) (zfK Mc))=true) (hM:zfo lm ks κ Mc 0 ks) (hr:zaO (ks.length+nn) r=true) (hM':zi9 (ks.length+nn) M')
   (k:zfp (vS ks κ M') fun new=>uV (u0 ks κ r) fun r=>K r (.give ks new nn))
theorem zb.t{P:Program}{lm:Nat->Option Mem}{κ:Nat}{f:FuncId}{args:List SV}{K:SV->MD->Prop}{r:SV}(h:zd P f (zbg lm args) [] r [])(k:uV r fun r=>K r .none)(hr:znB lm args r=true:=by rfl):zb P lm κ f args K:=.to r h hr k
def zhJ(s:SV):Bool:=
 match s with
 |.val v=>(match v with
  | .agg _=>false
  | .tuple _=>false
  | _=>true)
 | .agg _=>false
 | .tup _=>false
 | .junk=>false
 | _=>true
def jj:List SV->Bool
 | []=>true
 | c::cs=>match zhJ c with
  | true=>jj cs
  | false=>false
def jx(o:Option Operand)(l:List SV)(dflt:Int)(K:Int->List SV->Prop):Prop:=
 match o with
 | none=>K dflt l
 | some _=>match l with
  | .val (.int _ n)::r=>K n r
  | _=>False
def fstO(p:Option (Nat×Nat)):Nat:=
 match p with
 | some (a,_)=>a
 | none=>0
def zaP(pl:Nat->Option (Nat×Nat)):List Nat->List SV->List SV->List SV
 | i::r,s::l,cs=>zaP pl r l (jA cs (fstO (pl i)) (kv s))
 | _,_,cs=>cs
def zab(pl:Nat->Option (Nat×Nat))(n:Nat):List Nat->List SV->Bool
 |i::r,s::l=>(match pl i with
  | some (off,sz)=>yn (Nat.beq (kv s).length sz) (yn (Nat.ble (off+sz) n) (yn (jj (kv s)) (zab pl n r l)))
  | none=>false)
 | [],[]=>true
 | _,_=>false
def zfL(Γ:List (TypeId×TI))(fs:List (Nat×TypeId))(i:Nat):Option (Nat×Nat):=
 match zko fs i with
 |some (off,ft)=>(match ti Γ ft with
  | some j=>some (off,j.sz)
  | none=>none)
 | none=>none
def uM(sz i:Nat):Option (Nat×Nat):=some (i*sz,sz)
def rep{α:Type 1}(n:Nat)(cs:List α):List α:=
 match n with
 | 0=>[]
 | n+1=>cs++rep n cs
def zcK{α:Type _}(enc:α->List SV)(xs:List α):List SV:=
 match xs with
 | []=>[]
 | x::xs=>enc x++zcK enc xs
def zub(lm:Nat->Option Mem)(s:SV)(K:Int->Prop):Prop:=
 match s with
 | .sl _ xs=>xs.length<=9223372036854775807->K xs.length
 |.own k=>(match lm k with
  | some (.arr _ _ _ xs)=>xs.length<=281474976710656->K xs.length
  | some (.garr _ _ xs)=>xs.length<=281474976710656->K xs.length
  | _=>False)
 | .val (.slice none 0 0)=>K 0
 | .nils=>K 0
 | .win _ _ _ n=>Ob (0<=n) (K n)
 | _=>False
def zoV(s:List SV)(K:IntKind->List Int->Prop):Prop:=
 match s with
 |.val (.int k m)::r=>(match r with
  | []=>K k [m]
  | _=>zoV r fun _ l=>K k (m::l))
 | _=>False
def zac:Int->List Int->Int
 | x,[]=>x
 | x,y::r=>zac (min x y) r
def zcU:Int->List Int->Int
 | x,[]=>x
 | x,y::r=>zcU (max x y) r
def zaQ{α:Type}(lm:Nat->Option Mem)(s:SV)(enc:α->List SV)(ys:List α):Prop:=
 match s with
 | .val (.slice none 0 0)=>ys=[]
 | .own k=>zeP lm (.own k)=.sl enc ys
 | s=>s=.sl enc ys
inductive Sl (p q:Prop) (r:Prop:=False):Prop
 | see (h:p)
 | keep (h:q)
 | win (h:r)
def zfq(Γ:List (TypeId×TI))(tys:List TypeId)(s x:SV)(lm:Nat->Option Mem)(κ:Nat)(K:SV->MD->Prop):Prop:=
 match tys with
 |[t,t']=>zF (Nat.beq t t') (kw Γ t fun i=>(match i.kind with
  |.slice e=>kw Γ e fun j=>(match s with
   | .val (.slice none 0 0)=>∃(α:Type) (enc:α->List SV) (ys:List α),zaQ lm x enc ys/\
     Ob ((ys.length:Int)*j.bytes<=140737488355328/\ys.length<=281474976710656/\0 < j.sz/\∀x∈ys,(enc x).length=j.sz) (K (.own κ) (.push (.arr e enc j.sz ys)))
   |.own k=>(match lm k with
    |some (.arr e' enc sz xs)=>zF (Nat.beq e e') (zF (Nat.beq sz j.sz) (∃ys,zaQ lm x enc ys/\
     Ob ((xs.length+ys.length:Int)*j.bytes<=140737488355328/\xs.length+ys.length<=281474976710656/\0 < j.sz/\∀x∈ys,(enc x).length=j.sz)
      (K (.own κ) (.repl k (.arr e enc sz (xs++ys))))))
    |some (.garr e' sz xs)=>zF (Nat.beq e e') (zF (Nat.beq sz j.sz) (∃(α:Type) (enc:α->List SV) (ys:List α),zaQ lm x enc ys/\
     Ob ((xs.length+ys.length:Int)*j.bytes<=140737488355328/\xs.length+ys.length<=281474976710656/\0 < j.sz/\∀x∈ys,(enc x).length=j.sz)
      (K (.own κ) (.repl k (.garr e sz (xs++ys.map enc))))))
    | _=>False)
   | .full enc xs=>∃ys,zaQ lm x enc ys/\
     Ob (ys≠[]/\(xs.length+ys.length:Int)*j.bytes<=140737488355328/\xs.length+ys.length<=281474976710656/\0 < j.sz/\(∀x∈xs,(enc x).length=j.sz)/\∀x∈ys,(enc x).length=j.sz)
      (K (.own κ) (.push (.arr e enc j.sz (xs++ys))))
   | .nils=>Sl (∃(α:Type) (enc:α->List SV) (ys:List α),zaQ lm x enc ys/\
     Ob (ys≠[]/\(ys.length:Int)*j.bytes<=140737488355328/\ys.length<=281474976710656/\0 < j.sz/\∀x∈ys,(enc x).length=j.sz) (K (.own κ) (.push (.arr e enc j.sz ys))))
     (∃(α:Type) (enc:α->List SV),zaQ lm x enc ([]:List α)/\0 < j.sz/\K .nils .none)
   | _=>False)
  | _=>False))
 | _=>False
def zfM(Γ:List (TypeId×TI))(tys:List TypeId)(s:SV)(e':TypeId)(sz':Nat)(ys:List (List SV))(lm:Nat->Option Mem)(κ:Nat)(K:SV->MD->Prop):Prop:=
 match tys with
 |[t,t']=>zF (Nat.beq t t') (kw Γ t fun i=>(match i.kind with
  |.slice e=>kw Γ e fun j=>zF (Nat.beq e e') (zF (Nat.beq sz' j.sz) (match s with
   | .val (.slice none 0 0)=>Ob ((ys.length:Int)*j.bytes<=140737488355328/\ys.length<=281474976710656/\0 < j.sz) (K (.own κ) (.push (.garr e j.sz ys)))
   |.own k=>(match lm k with
    | some (.garr e'' sz xs)=>zF (Nat.beq e e'') (zF (Nat.beq sz j.sz)
      (Ob ((xs.length+ys.length:Int)*j.bytes<=140737488355328/\xs.length+ys.length<=281474976710656/\0 < j.sz) (K (.own κ) (.repl k (.garr e sz (xs++ys))))))
    | _=>False)
   | _=>False))
  | _=>False))
 | _=>False
def znC(Γ:List (TypeId×TI))(tys:List TypeId)(s:SV)(n:Int)(κ:Nat)(K:SV->MD->Prop):Prop:=
 match tys,s with
 |[t,t'],.val (.slice none 0 0)=>kw Γ t fun i=>kw Γ t' fun i'=>(match i.kind,i'.kind with
  | .slice e,.int _=>kw Γ e fun j=>∃(α:Type) (enc:α->List SV) (z:α),
    enc z=vals j.zero/\Ob (0 < j.sz/\0 < n/\n*j.bytes<=140737488355328/\n<=281474976710656) (K (.own κ) (.push (.arr e enc j.sz (List.replicate n.toNat z))))
  | _,_=>False)
 | _,_=>False
def zdr(lm:Nat->Option Mem)(k:Nat)(T:TypeId){α:Type}(enc:α->List SV)(sz:Nat)(xs:List α)(lo n:Int)(x:SV)(K:SV->MD->Prop):Prop:=
 ∃ys,zaQ lm x enc ys/\Ob (0 < sz/\0<=lo/\0<=n/\lo+n<=xs.length/\∀y∈ys,(enc y).length=sz)
  (K (.val (.int .i64 (min ys.length n.toNat:Nat))) (.set k (.arr T enc sz (xs.take lo.toNat++(ys.take n.toNat++xs.drop (lo.toNat+min ys.length n.toNat))))))
def zfN(Γ:List (TypeId×TI))(b:Builtin)(tys:List TypeId)(args:List SV)(lm:Nat->Option Mem)(κ:Nat)(K:SV->MD->Prop):Prop:=
 match b,args with
 |.len,[s]=>(match tys with
  |[t]=>kw Γ t fun i=>(match i.kind with
   | .slice _=>zub lm s fun n=>K (.val (.int .i64 n)) .none
   | _=>False)
  | _=>False)
 |.cap,[s]=>(match tys with
  |[t]=>kw Γ t fun i=>(match i.kind with
   |.slice _=>(match s with
    | .val (.slice none 0 0)=>K (.val (.int .i64 0)) .none
    | .nils=>K (.val (.int .i64 0)) .none
    | _=>False)
   | _=>False)
  | _=>False)
 |.min,s=>zoV s fun k l=>(match l with
  | x::r=>K (.val (.int k (zac x r))) .none
  | []=>False)
 |.max,s=>zoV s fun k l=>(match l with
  | x::r=>K (.val (.int k (zcU x r))) .none
  | []=>False)
 |.append,[s,x]=>(match x with
  | .val (.int _ n)=>znC Γ tys s n κ K
  |.own k'=>(match lm k' with
   | some (.garr e' sz' ys)=>zfM Γ tys s e' sz' ys lm κ K
   | _=>zfq Γ tys s (.own k') lm κ K)
  | x=>zfq Γ tys s x lm κ K)
 |.copy,[d,x]=>(match tys with
  |[t,_]=>kw Γ t fun i=>(match i.kind with
   |.slice e=>kw Γ e fun j=>(match d with
    |.own k=>(match lm k with
     | some (.arr T enc sz xs)=>zF (Nat.beq sz j.sz) (zdr lm k T enc sz xs 0 xs.length x K)
     | _=>False)
    |.win k sz' lo n=>(match lm k with
     | some (.arr T enc sz xs)=>zF (Nat.beq sz j.sz) (zF (Nat.beq sz' sz) (zdr lm k T enc sz xs lo n x K))
     | _=>False)
    | _=>False)
   | _=>False)
  | _=>False)
 |.clear,[d]=>(match tys with
  |[t]=>kw Γ t fun i=>(match i.kind with
   |.slice e=>kw Γ e fun j=>(match d with
    |.win k sz' lo n=>(match lm k with
     | some (.arr T (α:=α) enc sz xs)=>zF (Nat.beq sz j.sz) (zF (Nat.beq sz' sz) (∃z:α,enc z=vals j.zero/\
       Ob (0<=lo/\0 < n/\lo+n<=xs.length) (K (.val (.tuple #[])) (.set k (.arr T enc sz (xs.take lo.toNat++(List.replicate n.toNat z++xs.drop (lo.toNat+n.toNat))))))))
     | _=>False)
    | _=>False)
   | _=>False)
  | _=>False)
 | _,_=>False
def zqk(Γ:List (TypeId×TI))(t:TypeId)(s:SV)(lm:Nat->Option Mem)(K:SV->MD->Prop):Prop:=
 kw Γ t fun i=>(match s with
  |.loc k off=>(match lm k with
   | some (.box _ cs)=>zF (Nat.ble (off+i.sz) cs.length) (mkV i.kind.agg i.sz (cs.drop off) fun s=>K s .none)
   | _=>False)
  | .ptr cs=>zF (Nat.ble i.sz cs.length) (mkV i.kind.agg i.sz cs fun s=>K s .none)
  | .dptr cs=>zF (Nat.ble i.sz cs.length) (mkV i.kind.agg i.sz cs fun s=>K s .none)
  |.eloc k sz n off=>(match lm k with
   | some (.arr _ enc sz' xs)=>zF (Nat.beq sz sz') (zF (Nat.ble (off+i.sz) sz) (Ob (0<=n/\n < xs.length) (∀x,xs[n.toNat]? =some x->
     mkV i.kind.agg i.sz ((enc x).drop off) fun s=>K s .none)))
   | some (.garr _ sz' xs)=>zF (Nat.beq sz sz') (zF (Nat.ble (off+i.sz) sz) (Ob (0<=n/\n < xs.length) (∀x,xs[n.toNat]? =some x->
     mkV i.kind.agg i.sz (x.drop off) fun s=>K s .none)))
   | _=>False)
  | _=>False)
def zmq(Γ:List (TypeId×TI))(t:TypeId)(s v:SV)(lm:Nat->Option Mem)(K:SV->MD->Prop):Prop:=
 kw Γ t fun i=>zF (jj (kv v)) (zF (Nat.beq (kv v).length i.sz) (match s with
  |.loc k off=>(match lm k with
   | some (.box T cs)=>zF (Nat.ble (off+i.sz) cs.length) (K (.val undef) (.set k (.box T (jA cs off (kv v)))))
   | _=>False)
  |.eloc k sz n off=>(match lm k with
   |some (.arr T (α:=α) enc sz' xs)=>zF (Nat.beq sz sz') (zF (Nat.ble (off+i.sz) sz) (match j5.flats (kv v) with
    |true=>(Ob (0<=n/\n < xs.length) (∀x,xs[n.toNat]? =some x->
     ∃x':α,enc x'=jA (enc x) off (kv v)/\K (.val undef) (.set k (.arr T enc sz (xs.set n.toNat x')))))
    |false=>(Ob (0<=n/\n < xs.length) (∀x,xs[n.toNat]? =some x->
     K (.val undef) (.set k (.garr T sz ((xs.map enc).set n.toNat (jA (enc x) off (kv v)))))))))
   | some (.garr T sz' xs)=>zF (Nat.beq sz sz') (zF (Nat.ble (off+i.sz) sz) (Ob (0<=n/\n < xs.length) (∀x,xs[n.toNat]? =some x->
     K (.val undef) (.set k (.garr T sz (xs.set n.toNat (jA x off (kv v))))))))
   | _=>False)
  | _=>False))
def zql(hi mx:Option Operand):Bool:=
 match mx,hi with
 | some _,none=>false
 | _,_=>true
def zqm:Option Operand->Bool
 |some (.const (.int _ n))=>(match n with
  | .ofNat m=>Nat.beq m 0
  | _=>false)
 | _=>false
inductive zqn (p q:Prop):Prop
 | sl (h:p)
 | full (h:q)
def zad:Option Operand->Bool
 | none=>true
 | _=>false
def zmr(Γ:List (TypeId×TI))(t:TypeId)(lo hi mx:Option Operand)(svs:List SV)(lm:Nat->Option Mem)(κ:Nat)(K:SV->MD->Prop):Prop:=
 zF (zql hi mx) (match svs with
 |s::rest=>kw Γ t fun i=>(match i.kind with
  |.slice e=>kw Γ e fun j=>(match s with
   |.sl enc xs=>(match yn (zqm hi) (zqm mx) with
    | true=>jx lo rest 0 fun l rest=>jx hi rest 0 fun h rest=>jx mx rest 0 fun m _=>Ob (l=0/\h=0/\m=0) (K .nils .none)
    |false=>jx lo rest 0 fun l rest=>jx hi rest xs.length fun h rest=>jx mx rest xs.length fun m _=>(match zad mx with
     | true=>Ob ((0<=l/\l<=h/\h<=m/\m<=xs.length)/\∀x∈xs,(enc x).length=j.sz) (K (.sl enc ((xs.drop l.toNat).take (h - l).toNat)) .none)
     | false=>zqn (Ob ((0<=l/\l<=h/\h<=m/\m<=xs.length)/\∀x∈xs,(enc x).length=j.sz) (K (.sl enc ((xs.drop l.toNat).take (h - l).toNat)) .none))
      (Ob ((0<=l/\l<=h/\h=m/\m<=xs.length)/\∀x∈xs,(enc x).length=j.sz) (K (.full enc ((xs.drop l.toNat).take (h - l).toNat)) .none))))
   | .val (.slice none 0 0)=>jx lo rest 0 fun l rest=>jx hi rest 0 fun h rest=>jx mx rest 0 fun m _=>Ob (l=0/\h=0/\m=0) (K (.val (.slice none 0 0)) .none)
   |.own k=>(match lm k with
    |some (.arr T enc sz xs)=>zF (Nat.beq sz j.sz) (jx lo rest 0 fun l rest=>jx hi rest xs.length fun h rest=>jx mx rest xs.length fun m _=>
     Sl (Ob (0<=l/\l<=h/\h<=m/\m<=xs.length) (K (.sl enc ((xs.drop l.toNat).take (h - l).toNat)) (.drop k)))
      (zF (zad mx) (Ob (l=0/\0<=h/\h<=xs.length) (K (.own κ) (.repl k (.arr T enc sz (xs.take h.toNat))))))
      (Ob (0<=l/\l < h/\h<=m/\m<=xs.length) (K (.win k sz l (h - l)) .none)))
    | some (.garr T sz xs)=>zF (Nat.beq sz j.sz) (zF (zad mx) (jx lo rest 0 fun l rest=>jx hi rest xs.length fun h _=>
      (Ob (l=0/\0<=h/\h<=xs.length) (K (.own κ) (.repl k (.garr T sz (xs.take h.toNat)))))))
    | _=>False)
   | _=>False)
  | _=>False)
 | []=>False)
def zhK(Γ:List (TypeId×TI))(t:TypeId)(lo hi mx:Option Operand)(cs:List SV)(K:SV->MD->Prop):Prop:=
 zF (yn (zad lo) (yn (zad hi) (zad mx))) (kw Γ t fun i=>(match i.kind with
  | .arr n e=>kw Γ e fun j=>∃(α:Type) (enc:α->List SV) (xs:List α),zcK enc xs=cs/\
    Ob (xs.length=n/\n<=281474976710656/\∀x∈xs,(enc x).length=j.sz) (K (.sl enc xs) .none)
  | _=>False))
def zje(Γ:List (TypeId×TI))(t:TypeId)(lo hi mx:Option Operand)(svs:List SV)(lm:Nat->Option Mem)(κ:Nat)(K:SV->MD->Prop):Prop:=
 match svs with
 | [.dptr cs]=>zhK Γ t lo hi mx cs K
 | svs=>zmr Γ t lo hi mx svs lm κ K
inductive zcV (p q:Prop):Prop
 | own (h:p)
 | data (h:q)
def boxV(Γ:List (TypeId×TI))(e:TypeId)(s:SV)(κ:Nat)(K:SV->MD->Prop):Prop:=
 zF (jj (kv s)) (match ti Γ e with
  |some i=>(match i.kind with
   |.arr _ _=>(match j5.flats (kv s) with
    | true=>zcV (K (.loc κ 0) (.push (.box e (kv s)))) (K (.dptr (kv s)) .none)
    | false=>K (.loc κ 0) (.push (.box e (kv s))))
   | _=>K (.loc κ 0) (.push (.box e (kv s))))
  | none=>K (.loc κ 0) (.push (.box e (kv s))))
def zcW(Γ:List (TypeId×TI))(t:TypeId)(f:Nat)(s:SV)(K:SV->MD->Prop):Prop:=
 kw Γ t fun i=>(match i.kind with
  |.struct fs=>(match zko fs f with
   |some (off,ft)=>kw Γ ft fun j=>zF (Nat.blt 0 j.sz) (match s with
    | .loc k o'=>K (.loc k (o'+off)) .none
    | .ptr cs=>K (.ptr (cs.drop off)) .none
    | .dptr cs=>K (.dptr (cs.drop off)) .none
    | .eloc k sz i o'=>K (.eloc k sz i (o'+off)) .none
    | _=>False)
   | none=>False)
  | _=>False)
def zcX(Γ:List (TypeId×TI))(t:TypeId)(s n:SV)(lm:Nat->Option Mem)(K:SV->MD->Prop):Prop:=
 kw Γ t fun i=>(match n with
  |.val (.int _ n)=>(match i.kind with
   |.slice e=>kw Γ e fun j=>(match s with
    | .sl enc xs=>Ob (0<=n/\n < xs.length) (∀x,xs[n.toNat]? =some x->zF (Nat.beq (enc x).length j.sz) (K (.ptr (enc x)) .none))
    |.own k=>(match lm k with
     | some (.arr _ _ sz xs)=>zF (Nat.beq sz j.sz) (Ob (0<=n/\n < xs.length) (K (.eloc k sz n 0) .none))
     | some (.garr _ sz xs)=>zF (Nat.beq sz j.sz) (Ob (0<=n/\n < xs.length) (K (.eloc k sz n 0) .none))
     | _=>False)
    | .win k sz lo l=>zF (Nat.beq sz j.sz) (Ob (0<=lo/\0<=n/\n < l) (K (.eloc k sz (lo+n) 0) .none))
    | _=>False)
   |.arr len e=>kw Γ e fun j=>(match n with
    |.ofNat m=>zF (Nat.blt m len) (match s with
     | .loc k off=>K (.loc k (off+m*j.sz)) .none
     | .ptr cs=>K (.ptr (cs.drop (m*j.sz))) .none
     | .dptr cs=>K (.dptr (cs.drop (m*j.sz))) .none
     | .eloc k sz i' o'=>K (.eloc k sz i' (o'+m*j.sz)) .none
     | _=>False)
    | _=>False)
   | _=>False)
  | _=>False)
def zms(Γ:List (TypeId×TI))(t:TypeId)(s n:SV)(K:SV->MD->Prop):Prop:=
 kw Γ t fun i=>(match i.kind,s,n with
  |.arr len e,.agg cs,.val (.int _ n)=>kw Γ e fun j=>(match n with
   | .ofNat m=>zF (Nat.blt m len) (zF (Nat.ble (m*j.sz+j.sz) cs.length) (mkV j.kind.agg j.sz (cs.drop (m*j.sz)) fun s=>K s .none))
   | _=>False)
  | .str,.val (.string s),.val (.int _ n)=>Ob (0<=n/\n < s.size) (∀b:UInt8,s[n.toNat]? =some b->K (.val (.int .u8 b.toNat)) .none)
  | _,_,_=>False)
def zmt(Γ:List (TypeId×TI))(t:TypeId)(ids:List Nat)(svs:List SV)(K:SV->MD->Prop):Prop:=
 kw Γ t fun i=>(match i.kind with
  | .struct fs=>zF (zab (zfL Γ fs) i.sz ids svs) (K (.agg (zaP (zfL Γ fs) ids svs (vals i.zero))) .none)
  | .arr _ e=>kw Γ e fun j=>zF (zab (uM j.sz) i.sz ids svs) (K (.agg (zaP (uM j.sz) ids svs (vals i.zero))) .none)
  | _=>False)
def zuI:SV->Bool
 | .loc _ _=>false
 | .own _=>false
 | .eloc _ _ _ _=>false
 | .win _ _ _ _=>false
 | .ptr _=>false
 | .agg cs=>j5.flats cs
 | _=>true
def selB:List SV->Bool
 | []=>true
 | s::r=>match zuI s with
  | true=>selB r
  | false=>false
def zbs(Γ:List (TypeId×TI))(t:TypeId)(n:Nat)(ids:List Nat)(svs:List SV)(κ:Nat)(K:SV->MD->Prop):Prop:=
 kw Γ t fun i=>(match i.kind with
  | .slice e=>kw Γ e fun j=>zF (zab (uM j.sz) (n*j.sz) ids svs) (match selB svs with
    |true=>(∃(α:Type) (enc:α->List SV) (xs:List α),
     zcK enc xs=zaP (uM j.sz) ids svs (rep n (vals j.zero))/\
     Ob (xs.length=n/\n<=281474976710656/\n*j.sz<=16777216/\0 < j.sz/\∀x∈xs,(enc x).length=j.sz/\jj (enc x)=true/\j5.flats (enc x)=true) (K (.own κ) (.push (.arr e enc j.sz xs))))
    |false=>zF (jj (zaP (uM j.sz) ids svs (rep n (vals j.zero)))) (∃(xs:List (List SV)),
     zcK id xs=zaP (uM j.sz) ids svs (rep n (vals j.zero))/\
     Ob (xs.length=n/\n<=281474976710656/\n*j.sz<=16777216/\0 < j.sz/\∀x∈xs,x.length=j.sz) (K (.own κ) (.push (.garr e j.sz xs)))))
  | _=>False)
def zcY(Γ:List (TypeId×TI))(t:TypeId)(l c:SV)(κ:Nat)(K:SV->MD->Prop):Prop:=
 kw Γ t fun i=>(match i.kind,l,c with
  | .slice e,.val (.int _ n),.val (.int _ m)=>kw Γ e fun j=>∃(α:Type) (enc:α->List SV) (z:α),
    enc z=vals j.zero/\Ob (0 < j.sz/\0<=n/\n<=m/\m*j.bytes<=281474976710656/\m<=281474976710656) (K (.own κ) (.push (.arr e enc j.sz (List.replicate n.toNat z))))
  | _,_,_=>False)
def zqo(c a b:SV)(K:SV->MD->Prop):Prop:=
 match c with
 | .val (.bool true)=>K a .none
 | .val (.bool false)=>K b .none
 | .pr p _=>Br (p->K a .none) (¬p->K b .none)
 | _=>False
def unV(op:UnOp)(s:SV)(K:SV->MD->Prop):Prop:=
 match op,s with
 | .not,.val (.bool true)=>K (.val (.bool false)) .none
 | .not,.val (.bool false)=>K (.val (.bool true)) .none
 | .not,.pr p i=>K (.pr (¬p) (@instDecidableNot _ i)) .none
 | .neg,.val (.int k n)=>zhz k (- n) fun s=>K s .none
 | _,_=>False
def ub:Option Operand->List Operand
 | none=>[]
 | some x=>[x]
def zca:Callee->List Operand
 | .value f=>[f]
 | .invoke r _=>[r]
 | .builtin _=>[]
def kV:Op->List Operand
 | .move x=>[x]
 | .assign x=>[x]
 | .pick c a b=>[c,a,b]
 | .box _ x=>[x]
 | .build _ ps=>ps.toList.map (·.2)
 | .buildSlice _ _ ps=>ps.toList.map (·.2)
 | .load _ a=>[a]
 | .store _ a x=>[a,x]
 | .nilCheck x=>[x]
 | .binOp _ _ x y _=>[x,y]
 | .unOp _ _ x=>[x]
 | .convert _ _ x=>[x]
 | .makeFunc _ first caps=>first.toList++caps.toList
 | .makeSlice _ l c=>[l,c]
 | .makeInterface _ x=>[x]
 | .typeAssert x _ _ _=>[x]
 | .makeMap _ r=>ub r
 | .mapUpdate _ m k x=>[m,k,x]
 | .insert _ m k x=>[m,k,x]
 | .lookup _ m k _=>[m,k]
 | .slice _ x lo hi mx=>x::(ub lo++(ub hi++ub mx))
 | .fieldAddr _ x _=>[x]
 | .field _ x _=>[x]
 | .indexAddr _ x i=>[x,i]
 | .index _ x i=>[x,i]
 | .extract x _=>[x]
 | .call c=>zca c.callee++c.args.toList
 | _=>[]
def findK(es:List (Int×SV))(n:Int)(K1:SV->Prop)(K0:Prop):Prop:=
 List.rec (motive:=fun _=>Prop) K0 (fun x _ ih=>match x with
  | (k,s)=>Br (n=k->K1 s) (¬n=k->ih)) es
def updK(es:List (Int×SV))(n:Int)(s:SV):(List (Int×SV)->Prop)->Prop:=
 List.rec (motive:=fun _=>(List (Int×SV)->Prop)->Prop) (fun K=>K [(n,s)]) (fun x r ih K=>match x with
  | (k,s')=>Br (n=k->K ((n,s)::r)) (¬n=k->ih fun r'=>K ((k,s')::r'))) es
def lookV(ok:Bool)(s:SV)(b:Bool)(K:SV->MD->Prop):Prop:=
 match ok with
 | true=>K (.tup [s,.val (.bool b)]) .none
 | false=>uV s fun s=>K s .none
def methodB(P:Program)(t:TypeId)(name:String)(f:FuncId):Bool:=
 (match P.underlying t with
  | some (.struct _)=>true
  | _=>false)&&(match P.info? t with
  |some i=>(match i.methods.find? (·.name==name) with
   |some m=>m.path.isEmpty&&(match m.func with
    | some (g,p)=>Nat.beq g f&&!p
    | none=>false)
   | none=>false)
  | none=>false)
def znD:List SV->(List Value->Prop)->Prop
 | [],K=>K []
 | .val v::r,K=>znD r fun vs=>K (v::vs)
 | _,_=>False
def conc(s:SV)(K:Value->Prop):Prop:=
 match s with
 | .val v=>K v
 | .agg cs=>znD cs fun vs=>K (.agg vs.toArray)
 | _=>False
def znE:List SV->(List Value->Prop)->Prop
 | [],K=>K []
 | s::r,K=>conc s fun v=>znE r fun vs=>K (v::vs)
def zqp:List SV->Bool
 | []=>true
 | .val _::r=>zqp r
 | _=>false
def zqq:List SV->Bool
 | []=>true
 | .val _::r=>zqq r
 | .agg cs::r=>yn (zqp cs) (zqq r)
 | _=>false
def ofV(v:Value):SV:=
 match v with
 | .agg a=>.agg (a.toList.map .val)
 | v=>.val v
def opV(P:Program)(Γ:List (TypeId×TI))(op:Op)(svs:List SV)(lm:Nat->Option Mem)(κ:Nat)(K:SV->MD->Prop):Prop:=
 match op,svs with
 | .move _,[s]=>K s .none
 | .assign _,[s]=>K s .none
 | .pick _ _ _,[c,a,b]=>zqo c a b K
 | .alloc e,_=>kw Γ e fun i=>K (.loc κ 0) (.push (.box e (vals i.zero)))
 | .box e _,[s]=>boxV Γ e s κ K
 | .build t ps,svs=>zmt Γ t (ps.toList.map (·.1)) svs K
 | .buildSlice t n ps,svs=>zbs Γ t n (ps.toList.map (·.1)) svs κ K
 | .load t _,[s]=>zqk Γ t s lm K
 | .store t _ _,[s,v]=>zmq Γ t s v lm K
 |.nilCheck _,[s]=>(match s with
  | .loc k off=>K (.loc k off) .none
  | .ptr cs=>K (.ptr cs) .none
  | .dptr cs=>K (.dptr cs) .none
  | .eloc k sz i off=>K (.eloc k sz i off) .none
  | .ifc t s=>K (.ifc t s) .none
  | _=>False)
 | .binOp op t _ y _,[a,b]=>bin Γ op t y a b fun s=>K s .none
 | .unOp op _ _,[s]=>unV op s K
 |.convert s0 t _,[s]=>kw Γ s0 fun _=>kw Γ t fun i=>(match i.kind,s with
  | .int k,.val (.int _ n)=>zhz k n fun s=>K s .none
  | _,_=>False)
 |.makeFunc fn first caps,svs=>(match fn with
  |.func f=>(match first.isEmpty with
   | true=>K (.fn f svs) .none
   |false=>zF caps.isEmpty (match zqq svs with
    | true=>znE svs fun vs=>K (.val (.func (.func f) vs.toArray #[])) .none
    | false=>zF (j5.flats svs) (K (.bm f svs) .none)))
  | _=>False)
 | .makeSlice t _ _,[l,c]=>zcY Γ t l c κ K
 | .slice t _ lo hi mx,svs=>zje Γ t lo hi mx svs lm κ K
 | .fieldAddr t _ f,[s]=>zcW Γ t f s K
 |.field t _ f,[s]=>kw Γ t fun i=>(match i.kind,s with
  |.struct fs,.agg cs=>(match zko fs f with
   | some (off,ft)=>kw Γ ft fun j=>zF (Nat.ble (off+j.sz) cs.length) (mkV j.kind.agg j.sz (cs.drop off) fun s=>K s .none)
   | none=>False)
  | _,_=>False)
 | .indexAddr t _ _,[s,n]=>zcX Γ t s n lm K
 | .index t _ _,[s,n]=>zms Γ t s n K
 |.extract _ n,[s]=>(match s with
  |.tup vs=>(match vs.drop n with
   | v::_=>uV v fun v=>K v .none
   | []=>False)
  | _=>False)
 |.call c,svs=>(match c.callee with
  |.value _=>(match svs with
   | .fn f caps::args=>zb P lm κ f (args++caps) K
   | .val (.func (.func f) first ⟨[]⟩)::args=>zb P lm κ f (first.toList.map ofV++args) K
   | .dfn f caps::args=>zb P lm κ f (args++caps) K
   | .bm f first::args=>zb P lm κ f (first++args) K
   | _=>False)
  | .invoke _ _=>False
  | .builtin b=>zfN Γ b c.argTypes.toList svs lm κ K)
 | _,_=>False
def zcL(M:List (Nat×Mem))(κ k:Nat):Option Mem:=
 match Nat.blt k κ with
 | true=>zO M k
 | false=>none
def zhL(d:Option Tmp)(nt:Nat)(K:Prop):Prop:=
 match d with
 | some d=>zF (Nat.blt d nt) K
 | none=>K
def zbh:Op->Bool
 | .load _ _=>true
 | .store _ _ _=>true
 | .slice _ _ _ _ _=>true
 | .indexAddr _ _ _=>true
 | .mapUpdate _ _ _ _=>true
 | .insert _ _ _ _=>true
 | .lookup _ _ _ _=>true
 | .call _=>true
 | _=>false
def zqr:Op->Bool
 |.call c=>(match c.callee with
  | .builtin .append=>true
  | .builtin .copy=>true
  | _=>false)
 | _=>false
def isW:Op->Bool
 | .store _ _ _=>true
 | .mapUpdate _ _ _ _=>true
 | .insert _ _ _ _=>true
 | o=>zqr o
def zbt:Op->Bool
 | .store _ _ _=>true
 | .alloc _=>true
 | .box _ _=>true
 | .buildSlice _ _ _=>true
 | .makeSlice _ _ _=>true
 | .makeMap _ _=>true
 | .mapUpdate _ _ _ _=>true
 | .insert _ _ _ _=>true
 | o=>zqr o
def zmu(acc:List Nat)(o:Oper):Nat:=o.after.toList.foldl (fun s e=>if Region.binds .any e then s|||2 ^ e.on|||acc.getD e.on 0 else s) 0
def vT(all:List Oper):Nat->List Nat
 | 0=>[]
 | j+1=>let acc:=vT all j;acc++[match all[j]? with | some o=>zmu acc o | none=>0]
def zbu:List Oper->Nat->Option Tmp
 | [],_=>none
 | o::_,0=>o.dst
 | _::r,n+1=>zbu r n
def zeh:List Operand->List Nat
 | []=>[]
 | .tmp t::r=>t::zeh r
 | _::r=>zeh r
def zaR(all:List Oper)(o:Oper):List Nat:=
 zeh (kV o.op)++(match o.guard with
  |some (j,_)=>(match zbu all j with
   | some t=>[t]
   | none=>[])
  | none=>[])
def yp(o:Oper):List Nat:=o.dst.toList
def zbv(a b:List Nat):Bool:=a.any fun x=>b.any fun y=>Nat.beq x y
def zoW(all:List Oper)(oi oj:Oper):Bool:=
 (zbt oi.op&&zbh oj.op)||(zbh oi.op&&isW oj.op)||zbv (yp oi) (zaR all oj)||zbv (yp oi) (yp oj)||zbv (zaR all oi) (yp oj)
def zfr(ops:List Oper):Bool:=
 (List.range ops.length).all fun j=>(match ops[j]? with
  | some o=>o.after.toList.all fun e=>!Region.binds .any e||Nat.blt e.on j
  | none=>true)
def yW(ops:List Oper):Bool:=
 let ms:=vT ops ops.length
 zfr ops&&(List.range ops.length).all fun j=>(List.range j).all fun i=>(ms.getD j 0).testBit i||!(match ops[i]?,ops[j]? with
  | some oi,some oj=>zoW ops oi oj
  | _,_=>false)
def zjf(ops:List Oper)(i:Nat):Bool:=
 let ms:=vT ops ops.length
 (List.range ops.length).all fun j=>Nat.ble j i||(ms.getD j 0).testBit i||!(match ops[j]? with
  | some oj=>zbh oj.op
  | none=>false)
def mdV(draw:Bool)(all:List Oper)(i κ:Nat)(op:Op)(md:MD)(K:Prop):Prop:=
 match draw with
 | false=>K
 |true=>(match isW op with
  |true=>(match md with
   | .drop _=>False
   | .set k _=>zF (Nat.blt k κ) K
   | .repl k _=>zF (Nat.blt k κ) K
   | .give _ _ _=>False
   | _=>K)
  |false=>(match md with
   | .none=>K
   |.push _=>(match zbt op with
    | true=>K
    | false=>Dr (zjf all i=true) K False)
   | _=>False))
def zqs(n:Nat):(Nat->Prop)->Prop:=
 Nat.rec (motive:=fun _=>(Nat->Prop)->Prop) (fun K=>K 0) (fun _ ih K=>ih fun m=>K (m+1)) n
theorem zcZ:∀{n:Nat} {K:Nat->Prop},zqs n K->K n
 | 0,_,h=>h
 | n+1,_,h=>zcZ (n:=n) h
def zjg(l:List SV):(List SV->Prop)->Prop:=
 List.rec (motive:=fun _=>(List SV->Prop)->Prop) (fun K=>K []) (fun c _ ih K=>ih fun r=>K (c::r)) l
theorem vU:∀{l:List SV} {K:List SV->Prop},zjg l K->K l
 | [],_,h=>h
 | c::l,K,h=>vU (l:=l) (K:=fun r=>K (c::r)) h
def zjh(s:SV)(K:SV->Prop):Prop:=
 match s with
 | .agg cs=>zjg cs fun cs=>K (.agg cs)
 | s=>K s
theorem zbw{s:SV}{K:SV->Prop}(h:zjh s K):K s:=by
 unfold zjh at h
 split at h
 ·exact vU (K:=fun cs=>K (.agg cs)) h
 ·exact h
def zji(md:MD)(K:MD->Prop):Prop:=
 match md with
 |.push m=>(match m with
  | .box T cs=>zjg cs fun cs=>K (.push (.box T cs))
  | m=>K (.push m))
 |.set k m=>(match m with
  | .box T cs=>zjg cs fun cs=>K (.set k (.box T cs))
  | m=>K (.set k m))
 | md=>K md
theorem zbx{md:MD}{K:MD->Prop}(h:zji md K):K md:=by
 unfold zji at h
 split at h
 ·split at h
  ·rename_i T cs;exact vU (K:=fun cs=>K (.push (.box T cs))) h
  ·exact h
 ·rename_i k _;split at h
  ·rename_i T cs;exact vU (K:=fun cs=>K (.set k (.box T cs))) h
  ·exact h
 ·exact h
def St.withK(σ:St)(κ:Nat):St:=⟨σ.L,σ.M,κ,σ.nt,σ.n0⟩
def zby(P:Program)(Γ:List (TypeId×TI))(draw:Bool)(all:List Oper)(i:Nat)(o:Oper)(σ:St)(K:St->Prop):Prop:=
 zqs σ.nk fun κ=>evs σ.L (kV o.op) fun svs=>opV P Γ o.op svs (zcL σ.M κ) κ fun s md=>zjh s fun s=>zji md fun md=>mdV draw all i κ o.op md (zhL o.dst σ.nt (K ((σ.withK κ).app o.dst s md)))
def uN(o:Oper)(σ:St)(K:St->Prop):Prop:=zhL o.dst σ.nt (K (σ.app o.dst (.val undef) .none))
def yN(P:Program)(Γ:List (TypeId×TI))(draw:Bool)(all:List Oper)(l:List Oper):Nat->St->(St->Prop)->Prop:=
 List.rec (motive:=fun _=>Nat->St->(St->Prop)->Prop) (fun _ σ K=>K σ) (fun o _ ih i σ K=>match o.guard with
  | none=>zby P Γ draw all i o σ fun σ=>ih (i+1) σ K
  |some (j,want)=>(match zbu all j with
   | none=>False
   |some t=>(match kD σ.L t with
    |some (.val (.bool true))=>(match want with
     | true=>zby P Γ draw all i o σ fun σ=>ih (i+1) σ K
     | false=>uN o σ fun σ=>ih (i+1) σ K)
    |some (.val (.bool false))=>(match want with
     | false=>zby P Γ draw all i o σ fun σ=>ih (i+1) σ K
     | true=>uN o σ fun σ=>ih (i+1) σ K)
    |some (.pr p _)=>(match want with
     | true=>Br (p->zby P Γ draw all i o (σ.put (some t) (.val (.bool true))) fun σ=>ih (i+1) σ K)
       (¬p->uN o (σ.put (some t) (.val (.bool false))) fun σ=>ih (i+1) σ K)
     | false=>Br (p->uN o (σ.put (some t) (.val (.bool true))) fun σ=>ih (i+1) σ K)
       (¬p->zby P Γ draw all i o (σ.put (some t) (.val (.bool false))) fun σ=>ih (i+1) σ K))
    | some (.val (.tuple _))=>uN o σ fun σ=>ih (i+1) σ K
    | _=>False))) l
def zuc:SV->List Nat
 | .loc k _=>[k]
 | .own k=>[k]
 | .eloc k _ _ _=>[k]
 | .win k _ _ _=>[k]
 | _=>[]
def zbz:List SV->List Nat
 | []=>[]
 | c::cs=>zuc c++zbz cs
def zfO:List SV->Bool
 | []=>true
 |c::cs=>(match c with
  | .val _=>zfO cs
  | .pr _ _=>zfO cs
  | .sl _ _=>zfO cs
  | _=>false)
def zei:List SV->Bool
 | []=>true
 |c::cs=>(match c with
  | .val _=>zei cs
  | .pr _ _=>zei cs
  | .sl _ _=>zei cs
  |.agg xs=>(match zfO xs with
   | true=>zei cs
   | false=>false)
  |.fn _ xs=>(match zfO xs with
   | true=>zei cs
   | false=>false)
  | _=>false)
def zkq(op:Op)(svs:List SV):Option (List Nat):=
 match op with
 |.call c=>(match c.callee with
  | .builtin _=>some (zbz svs)
  |_=>(match zei svs with
   | true=>some []
   | false=>none))
 |.store _ _ _=>(match svs with
  | s::_=>some (zuc s)
  | []=>some [])
 | .load _ _=>some (zbz svs)
 | .slice _ _ _ _ _=>some (zbz svs)
 | .indexAddr _ _ _=>some (zbz svs)
 | .mapUpdate _ _ _ _=>some (zbz svs)
 | .insert _ _ _ _=>some (zbz svs)
 | .lookup _ _ _ _=>some (zbz svs)
 | _=>some []
structure Ent where
 u:Option (List Nat)
 nk:Nat
 t:List Nat
def zcI(k:Nat):List Nat->Bool
 | []=>false
 | x::r=>match Nat.beq x k with
  | true=>true
  | false=>zcI k r
def zbA(u:Option (List Nat))(nk k:Nat):Bool:=
 match u with
 | none=>Nat.blt k nk
 | some l=>zcI k l
def lmU(u:Option (List Nat))(nk:Nat)(lm:Nat->Option Mem)(k:Nat):Option Mem:=
 match zbA u nk k with
 | true=>lm k
 | false=>none
def zmv(κ:Nat):Nat->List Nat
 | 0=>[]
 | n+1=>(κ+n)::zmv κ n
def zej(κ:Nat):MD->List Nat
 | .none=>[]
 | .push _=>[κ]
 | .set k _=>[k]
 | .drop k=>[k]
 | .repl k _=>[k,κ]
 | .give ks _ nn=>ks++zmv κ nn
def znF(e:Ent):List Nat->Bool
 | []=>false
 | k::r=>match zbA e.u e.nk k with
  | true=>true
  | false=>match zcI k e.t with
   | true=>true
   | false=>znF e r
def znG(x:Ent):List Nat->Bool
 | []=>false
 | k::r=>match zbA x.u x.nk k with
  | true=>true
  | false=>znG x r
def zkr(x e:Ent):Bool:=
 match znF e x.t with
 | true=>true
 | false=>znG x e.t
def prOK(m:Nat)(e:Ent):List Ent->Bool
 | []=>true
 | x::r=>(m.testBit r.length||!zkr x e)&&prOK m e r
def zfP(ms:List Nat):List Ent->Bool
 | []=>true
 | e::r=>prOK (ms.getD r.length 0) e r&&zfP ms r
def zfQ(all:List Oper)(oi oj:Oper):Bool:=
 zbv (yp oi) (zaR all oj)||zbv (yp oi) (yp oj)||zbv (zaR all oi) (yp oj)
def zc0(ops:List Oper):Bool:=
 let ms:=vT ops ops.length
 zfr ops&&(List.range ops.length).all fun j=>(List.range j).all fun i=>(ms.getD j 0).testBit i||!(match ops[i]?,ops[j]? with
  | some oi,some oj=>zfQ ops oi oj
  | _,_=>false)
def mdD(κ:Nat)(md:MD)(K:Prop):Prop:=
 match md with
 | .drop k=>zF (Nat.blt k κ) K
 | .set k _=>zF (Nat.blt k κ) K
 | .repl k _=>zF (Nat.blt k κ) K
 | .give ks new nn=>zF (yn (newB ks κ nn new) (zjb new κ nn)) K
 | _=>K
def vV(P:Program)(Γ:List (TypeId×TI))(o:Oper)(σ:St)(K:Ent->St->Prop):Prop:=
 zqs σ.nk fun κ=>evs σ.L (kV o.op) fun svs=>opV P Γ o.op svs (lmU (zkq o.op svs) κ (zcL σ.M κ)) κ fun s md=>zjh s fun s=>zji md fun md=>mdD κ md (zhL o.dst σ.nt (K ⟨zkq o.op svs,κ,zej κ md⟩ ((σ.withK κ).app o.dst s md)))
def zhM:Ent:=⟨some [],0,[]⟩
def vk(P:Program)(Γ:List (TypeId×TI))(all:List Oper)(l:List Oper):Nat->List Ent->St->(St->Prop)->Prop:=
 List.rec (motive:=fun _=>Nat->List Ent->St->(St->Prop)->Prop) (fun _ acc σ K=>Ob (zfP (vT all all.length) acc=true) (K σ)) (fun o _ ih i acc σ K=>match o.guard with
  | none=>vV P Γ o σ fun e σ=>ih (i+1) (e::acc) σ K
  |some (j,want)=>(match zbu all j with
   | none=>False
   |some t=>(match kD σ.L t with
    |some (.val (.bool true))=>(match want with
     | true=>vV P Γ o σ fun e σ=>ih (i+1) (e::acc) σ K
     | false=>uN o σ fun σ=>ih (i+1) (zhM::acc) σ K)
    |some (.val (.bool false))=>(match want with
     | false=>vV P Γ o σ fun e σ=>ih (i+1) (e::acc) σ K
     | true=>uN o σ fun σ=>ih (i+1) (zhM::acc) σ K)
    |some (.pr p _)=>(match want with
     | true=>Br (p->vV P Γ o (σ.put (some t) (.val (.bool true))) fun e σ=>ih (i+1) (e::acc) σ K)
       (¬p->uN o (σ.put (some t) (.val (.bool false))) fun σ=>ih (i+1) (zhM::acc) σ K)
     | false=>Br (p->uN o (σ.put (some t) (.val (.bool true))) fun σ=>ih (i+1) (zhM::acc) σ K)
       (¬p->vV P Γ o (σ.put (some t) (.val (.bool false))) fun e σ=>ih (i+1) (e::acc) σ K))
    | some (.val (.tuple _))=>uN o σ fun σ=>ih (i+1) (zhM::acc) σ K
    | _=>False))) l
inductive Ex
 | normal
 | exit (id:Nat)
 | ret
def Sub(σ σ':St):Prop:=∀(E:Env) ρ a w,Rel E σ ρ a w->∃ρ',Rel E σ' ρ' a w
def jB(P:Program)(Γ:List (TypeId×TI))(c:Code):St->(Ex->St->Prop)->Prop:=
 Code.rec (motive:=fun _=>St->(Ex->St->Prop)->Prop)
  (fun σ Q=>Q .normal σ)
  (fun _ ops draw σ Q=>match draw with
   | false=>yN P Γ false ops.toList ops.toList 0 σ (Q .normal)
   | true=>Dr (yW ops.toList=true) (yN P Γ true ops.toList ops.toList 0 σ (Q .normal))
     (Ob (zc0 ops.toList=true) (vk P Γ ops.toList ops.toList 0 [] σ (Q .normal))))
  (fun _ _ ha hb σ Q=>ha σ fun e σ=>(match e with
   | .normal=>hb σ Q
   | .exit id=>Q (.exit id) σ
   | .ret=>Q .ret σ))
  (fun c _ _ hx hy σ Q=>ev σ.L c fun c=>(match c with
   | .val (.bool true)=>hx σ Q
   | .val (.bool false)=>hy σ Q
   | .pr p _=>Br (p->hx σ Q) (¬p->hy σ Q)
   | .anyb=>Br (hx σ Q) (hy σ Q)
   | _=>False))
  (fun id _ hc σ Q=>hc σ fun e σ=>(match e with
   | .normal=>Q .normal σ
   |.exit j=>(match Nat.beq j id with
    | true=>Q .normal σ
    | false=>Q (.exit j) σ)
   | .ret=>Q .ret σ))
  (fun _ hc σ Q=>∃(ι:Type) (S:ι->St) (I:ι->Prop) (μ:ι->Nat) (x0:ι),I x0/\Sub σ (S x0)/\
   ∀x,I x->hc (S x) fun e σ'=>(match e with
    | .normal=>∃x',I x'/\Sub σ' (S x')/\μ x' < μ x
    | .exit id=>Q (.exit id) σ'
    | .ret=>Q .ret σ'))
  (fun _ _ _ _ _ _ _ _=>False)
  (fun id σ Q=>Q (.exit id) σ)
  (fun _ hc σ Q=>hc σ Q)
  (fun _ σ Q=>Q .normal σ)
  (fun _ _ _=>False)
  (fun σ Q=>Q .ret σ)
  (fun _ _ _=>False)
  c
def zmw(σ:St)(Γ:List (TypeId×TI))(x:ResultVar)(K:SV->Prop):Prop:=
 match x with
 |.tmp t=>(match kD σ.L t with
  | some s=>uV s fun s=>K s
  | none=>False)
 |.cell a t=>kw Γ t fun i=>(match kD σ.L a with
  |some (.loc k off)=>(match zO σ.M k with
   | some (.box _ cs)=>zF (Nat.ble (off+i.sz) cs.length) (mkV i.kind.agg i.sz (cs.drop off) fun s=>K s)
   | _=>False)
  | _=>False)
def zqt(σ:St)(Γ:List (TypeId×TI))(xs:List ResultVar):(List SV->Prop)->Prop:=
 List.rec (motive:=fun _=>(List SV->Prop)->Prop) (fun K=>K []) (fun x _ ih K=>zmw σ Γ x fun s=>ih fun l=>K (s::l)) xs
def zaS(σ:St)(Γ:List (TypeId×TI))(rs:List ResultVar)(K:SV->Prop):Prop:=
 zqt σ Γ rs fun l=>match l with
  | [s]=>K s
  | l=>K (.tup l)
def jC:Nat->List SV->List (Nat×SV)
 | _,[]=>[]
 | n,a::r=>(n,a)::jC (n+1) r
def zks(lm:Nat->Option Mem)(s:SV):SV:=
 match s with
 | .tup cs=>.tup (zi8 lm cs)
 | s=>zeP lm s
def endV(Γ:List (TypeId×TI))(rs:List ResultVar)(r:SV)(e:Ex)(σ:St):Prop:=
 match e with
 | .exit _=>False
 | _=>zaS σ Γ rs fun s=>LE (zks (zO σ.M) s) r
inductive zak (k:Option Nat):SV->SV->Prop
 | own (k':Nat) (h:k=some k'):zak k (.own k') (.own 0)
 | loc (k' off:Nat) (h:k=some k'):zak k (.loc k' off) (.loc 0 off)
 | nil (h:k=none):zak k (.val (.slice none 0 0)) (.own 0)
 | le (s r:SV) (h:LE s r) (hf:j5 r=true):zak k s r
 | junk (s:SV):zak k s .junk
 | agg (cs ds:List SV) (hl:cs.length=ds.length) (h:∀(j:Nat) (s r:SV),cs[j]? =some s->ds[j]? =some r->zak k s r):zak k (.agg cs) (.agg ds)
 | tup (cs ds:List SV) (hl:cs.length=ds.length) (h:∀(j:Nat) (s r:SV),cs[j]? =some s->ds[j]? =some r->zak k s r):zak k (.tup cs) (.tup ds)
 | fn (f:FuncId) (cs ds:List SV) (hl:cs.length=ds.length) (h:∀(j:Nat) (s r:SV),cs[j]? =some s->ds[j]? =some r->zak k s r):zak k (.fn f cs) (.fn f ds)
def zud(M:List (Nat×Mem))(k:Option Nat)(m:Mem):Prop:=
 match k with
 | some k=>zO M k=some m/\zfJ m
 |none=>(match m with
  | .arr _ _ _ xs=>xs=[]
  | _=>False)
def zmx(Γ:List (TypeId×TI))(rs:List ResultVar)(r:SV)(m:Mem)(e:Ex)(σ:St):Prop:=
 match e with
 | .exit _=>False
 | _=>zaS σ Γ rs fun s=>∃k,zak k s r/\zud σ.M k m
def zuJ(Γ:List (TypeId×TI))(rs:List ResultVar)(r:SV)(m:Mem)(e:Ex)(σ:St):Prop:=
 match e with
 | .exit _=>False
 | _=>zaS σ Γ rs fun s=>(zO σ.M 0=some m/\LE s r)
end Go.Gs
