/- The conditions that an operation, a region, a piece of code leave to be shown. -/
import Derived.Test.YtplllpkdmehklaaGreatDoorMA
import Derived.Test.YtplllpkdmehklaaGreatDoorMAA
set_option maxRecDepth 100000
set_option maxHeartbeats 8000000
set_option linter.all false
namespace Go.Gs
def zgY:Mem->Prop
 | .box _ cs=>jW.flats cs=true
 | .arr _ enc _ xs=>∀x∈xs,jW.flats (enc x)=true
 | .garr _ _ _=>False
 | .map es=>jW.flats (es.map (·.2))=true
def give(lm:Nat->Option Mem)(k:Nat)(s:SV):SV:=
 match s with
 |.loc k' off=>(match Nat.beq k' k with
  | true=>.loc 0 off
  | false=>zh0 lm (.loc k' off))
 |.own k'=>(match Nat.beq k' k with
  | true=>.own 0
  | false=>zh0 lm (.own k'))
 |.win k' sz lo n=>(match Nat.beq k' k with
  | true=>.win 0 sz lo n
  | false=>zh0 lm (.win k' sz lo n))
 | s=>zh0 lm s
def zuW(lm:Nat->Option Mem)(k:Nat):List SV->List SV
 | []=>[]
 | c::cs=>give lm k c::zuW lm k cs
def zko(k:Nat):List SV->Bool
 | []=>true
 |.loc k' _::r=>(match Nat.beq k' k with
  | true=>false
  | false=>zko k r)
 | _::r=>zko k r
def zbd(lm:Nat->Option Mem)(k:Nat):List SV->Bool
 | []=>true
 |.loc k' off::r=>(match Nat.beq k' k with
  | true=>zbd lm k r
  | false=>y9 (y5 lm [.loc k' off]) (zbd lm k r))
 |.own k'::r=>(match Nat.beq k' k with
  | true=>zbd lm k r
  | false=>false)
 |.win k' _ _ _::r=>(match Nat.beq k' k with
  | true=>zbd lm k r
  | false=>false)
 | .fn f cs::r=>y9 (zko k cs) (y9 (y5 lm [.fn f cs]) (zbd lm k r))
 | s::r=>y9 (y5 lm [s]) (zbd lm k r)
def zhD:Mem->Prop
 | .box _ cs=>ua.scalars cs=true
 | .arr _ enc _ xs=>∀x∈xs,ua.scalars (enc x)=true
 | .garr _ _ _=>False
 | .map es=>ua.scalars (es.map (·.2))=true
def mv(κ:Nat):SV->SV
 | .own _=>.own κ
 | .loc _ off=>.loc κ off
 | .agg cs=>.agg (mvs κ cs)
 | .tup cs=>.tup (mvs κ cs)
 | .fn f cs=>.fn f (mvs κ cs)
 | .ifc t s=>.ifc t (mv κ s)
 | s=>s
 where
 mvs (κ:Nat):List SV->List SV
  | []=>[]
  | c::cs=>mv κ c::mvs κ cs
def zau:SV->Bool
 | .own k=>Nat.beq k 0
 | .loc k _=>Nat.beq k 0
 | .val _=>true
 | .pr _ _=>true
 | .junk=>true
 | .agg cs=>mvOKs cs
 | .tup cs=>mvOKs cs
 | .fn _ cs=>mvOKs cs
 | .ifc _ s=>zau s
 | _=>false
 where
 mvOKs:List SV->Bool
  | []=>true
  | c::cs=>match zau c with
   | true=>mvOKs cs
   | false=>false
def zuX:Option Mem->Bool
 | some (.arr _ _ _ _)=>true
 | _=>false
def zuY(lm:Nat->Option Mem)(k:Nat):List SV->Bool
 | []=>true
 |.own k'::r=>(match Nat.beq k' k with
  | true=>zuY lm k r
  | false=>false)
 | s::r=>y9 (y5 lm [s]) (zuY lm k r)
def LE(s r:SV):Prop:=∀S Pm ρ w v,G S Pm ρ w s v->G S Pm ρ w r v
inductive LEs:List SV->List SV->Prop
 | nil:LEs [] []
 | cons {a b:SV} {za bs:List SV} (h:LE a b) (t:LEs za bs):LEs (a::za) (b::bs)
def rn(ks:List Nat)(κ j:Nat):Nat:=
 match ks[j]? with
 | some k=>k
 | none=>κ+(j - ks.length)
def zac(ks:List Nat)(κ:Nat):SV->SV
 | .loc k off=>.loc (rn ks κ k) off
 | .own k=>.own (rn ks κ k)
 | .eloc k sz i off=>.eloc (rn ks κ k) sz i off
 | .win k sz lo n=>.win (rn ks κ k) sz lo n
 | .agg cs=>.agg (rens ks κ cs)
 | .tup cs=>.tup (rens ks κ cs)
 | .fn f cs=>.fn f (rens ks κ cs)
 | .ifc t s=>.ifc t (zac ks κ s)
 | s=>s
 where
 rens (ks:List Nat) (κ:Nat):List SV->List SV
  | []=>[]
  | c::cs=>zac ks κ c::rens ks κ cs
def vh(n:Nat):SV->Bool
 | .loc k _=>Nat.blt k n
 | .own k=>Nat.blt k n
 | .eloc k _ _ _=>Nat.blt k n
 | .win k _ _ _=>Nat.blt k n
 | .agg cs=>lows n cs
 | .tup cs=>lows n cs
 | .fn _ cs=>lows n cs
 | .ifc _ s=>vh n s
 | _=>true
 where
 lows (n:Nat):List SV->Bool
  | []=>true
  | c::cs=>match vh n c with
   | true=>lows n cs
   | false=>false
def zbR(n:Nat):SV->Bool
 | .loc k _=>Nat.blt k n
 | .own k=>Nat.blt k n
 | .eloc k _ _ _=>Nat.blt k n
 | .win k _ _ _=>Nat.blt k n
 | .ptr _=>false
 | .agg cs=>outs n cs
 | .tup cs=>outs n cs
 | .fn _ cs=>outs n cs
 | .ifc _ s=>zbR n s
 | _=>true
 where
 outs (n:Nat):List SV->Bool
  | []=>true
  | c::cs=>match zbR n c with
   | true=>outs n cs
   | false=>false
def zka(ks:List Nat)(κ:Nat):Mem->Mem
 | .box T cs=>.box T (zac.rens ks κ cs)
 | .garr T sz xs=>.garr T sz (xs.map (zac.rens ks κ))
 | m=>m
def zaZ(ks:List Nat)(κ:Nat):List (Nat×Mem)->List (Nat×Mem)
 | []=>[]
 | (j,m)::r=>(rn ks κ j,zka ks κ m)::zaZ ks κ r
def lowM(n:Nat):Mem->Prop
 | .box _ cs=>vh.lows n cs=true
 | .garr _ _ xs=>∀x∈xs,vh.lows n x=true
 | _=>True
def outM(n:Nat):Mem->Prop
 | .box _ cs=>zbR.outs n cs=true
 | .garr _ _ xs=>∀x∈xs,zbR.outs n x=true
 | _=>True
def zhE(lm:Nat->Option Mem)(ks0:List Nat)(κ:Nat)(Mc:List (Nat×Mem)):Nat->List Nat->Prop
 | _,[]=>True
 | i,k::r=>(∃m,zN Mc i=some m/\lm k=some (zka ks0 κ m)/\lowM ks0.length m)/\zhE lm ks0 κ Mc (i+1) r
def zlQ(n:Nat):List (Nat×Mem)->Prop
 | []=>True
 | (j,m)::r=>(Nat.blt j n=true/\outM n m)/\zlQ n r
def zpI(k:Nat):List Nat->Bool
 | []=>false
 | x::r=>match Nat.beq x k with
  | true=>true
  | false=>zpI k r
def zcD:List Nat->Bool
 | []=>true
 | x::r=>match zpI x r with
  | true=>false
  | false=>zcD r
def znk(n:Nat):List (Nat×Mem)->Bool
 | []=>true
 | (k,_)::r=>y9 (Nat.blt k n) (znk n r)
def memM(k:Nat):List (Nat×Mem)->Bool
 | []=>false
 | (q,_)::r=>match Nat.beq q k with
  | true=>true
  | false=>memM k r
def zh2:List (Nat×Mem)->Bool
 | []=>true
 | (k,_)::r=>match memM k r with
  | true=>false
  | false=>zh2 r
def newB(ks:List Nat)(κ nn:Nat):List (Nat×Mem)->Bool
 | []=>true
 | (k,_)::r=>y9 (zpI k ks||(Nat.ble κ k&&Nat.blt k (κ+nn))) (newB ks κ nn r)
def zlR(k:Nat):List (Nat×Mem)->Bool
 | []=>false
 | (q,_)::r=>match Nat.beq q k with
  | true=>true
  | false=>zlR k r
def zlS(new:List (Nat×Mem))(κ:Nat):Nat->Bool
 | 0=>true
 | n+1=>y9 (zlR (κ+n) new) (zlS new κ n)
def zlT(l:List SV):(List SV->Prop)->Prop:=
 List.rec (motive:=fun _=>(List SV->Prop)->Prop) (fun K=>K []) (fun c _ ih K=>zaa c fun c=>ih fun r=>K (c::r)) l
def zlU(m:Mem)(K:Mem->Prop):Prop:=
 match m with
 | .box T cs=>zlT cs fun cs=>K (.box T cs)
 | .arr T enc sz xs=>K (.arr T enc sz xs)
 | .garr T sz xs=>K (.garr T sz xs)
 | .map es=>K (.map es)
def zAk(n:Nat):(Nat->Prop)->Prop:=
 Nat.rec (motive:=fun _=>(Nat->Prop)->Prop) (fun K=>K 0) (fun _ ih K=>ih fun m=>K (m+1)) n
def zhF(l:List (Nat×Mem)):(List (Nat×Mem)->Prop)->Prop:=
 List.rec (motive:=fun _=>(List (Nat×Mem)->Prop)->Prop) (fun K=>K []) (fun x _ ih K=>zAk x.1 fun k=>zlU x.2 fun m=>ih fun r=>K ((k,m)::r)) l
inductive zb (P:Program) (lm:Nat->Option Mem) (κ:Nat) (f:FuncId) (args:List SV) (K:SV->MD->Prop):Prop
 | to (r:SV) (h:zd P f (zct lm args) [] r []) (hr:zrf lm args r=true) (k:zaa r fun r=>K r .none)
 | fresh (m:Mem) (r:SV) (h:zd P f (zct lm args) [] r [(0,m)]) (hr:zau r=true) (hm:zgY m) (hc:y5 lm args=true∨zhD m) (k:zaa (mv κ r) fun r=>K r (.push m))
 | see (k:Nat) (r:SV) (h:zd P f (zct lm args) [] r []) (hk:zuX (lm k)=true) (hc:zuY lm k args=true) (hr:zhZ r=true) (kk:zaa r fun r=>K r (.drop k))
 | hand (k:Nat) (m m':Mem) (r:SV) (hk:lm k=some m) (h:zd P f (zuW lm k args) [(0,m)] r [(0,m')])
   (hm:zgY m) (hm':zgY m') (hc:zbd lm k args=true) (hr:zhZ r=true) (k:zaa r fun r=>K r (.set k m'))
 | give (ks:List Nat) (nn:Nat) (args':List SV) (Mc M':List (Nat×Mem)) (r:SV) (h:zd P f args' Mc r M') (ha:LEs args (zac.rens ks κ args')) (hl:vh.lows ks.length args'=true)
   (hn:zcD ks=true) (hk:y9 (Nat.beq Mc.length ks.length) (y9 (znk ks.length Mc) (zh2 Mc))=true) (hM:zhE lm ks κ Mc 0 ks) (hr:zbR (ks.length+nn) r=true) (hM':zlQ (ks.length+nn) M')
   (k:zhF (zaZ ks κ M') fun new=>zaa (zac ks κ r) fun r=>K r (.give ks new nn))
theorem zb.t{P:Program}{lm:Nat->Option Mem}{κ:Nat}{f:FuncId}{args:List SV}{K:SV->MD->Prop}{r:SV}(h:zd P f (zct lm args) [] r [])(k:zaa r fun r=>K r .none)(hr:zrf lm args r=true:=by rfl):zb P lm κ f args K:=.to r h hr k
def zkp(s:SV):Bool:=
 match s with
 |.val v=>(match v with
  | .agg _=>false
  | .tuple _=>false
  | _=>true)
 | .agg _=>false
 | .tup _=>false
 | .junk=>false
 | _=>true
def jI:List SV->Bool
 | []=>true
 | c::cs=>match zkp c with
  | true=>jI cs
  | false=>false
def jY(o:Option Operand)(l:List SV)(dflt:Int)(K:Int->List SV->Prop):Prop:=
 match o with
 | none=>K dflt l
 | some _=>match l with
  | .val (.int _ n)::r=>K n r
  | _=>False
def fstO(p:Option (Nat×Nat)):Nat:=
 match p with
 | some (a,_)=>a
 | none=>0
def zbS(pl:Nat->Option (Nat×Nat)):List Nat->List SV->List SV->List SV
 | i::r,s::l,cs=>zbS pl r l (j8 cs (fstO (pl i)) (kE s))
 | _,_,cs=>cs
def zbe(pl:Nat->Option (Nat×Nat))(n:Nat):List Nat->List SV->Bool
 |i::r,s::l=>(match pl i with
  | some (off,sz)=>y9 (Nat.beq (kE s).length sz) (y9 (Nat.ble (off+sz) n) (y9 (jI (kE s)) (zbe pl n r l)))
  | none=>false)
 | [],[]=>true
 | _,_=>false
def zh3(Γ:List (TypeId×TI))(fs:List (Nat×TypeId))(i:Nat):Option (Nat×Nat):=
 match znh fs i with
 |some (off,ft)=>(match ti Γ ft with
  | some j=>some (off,j.sz)
  | none=>none)
 | none=>none
def vV(sz i:Nat):Option (Nat×Nat):=some (i*sz,sz)
def rep{α:Type 1}(n:Nat)(cs:List α):List α:=
 match n with
 | 0=>[]
 | n+1=>cs++rep n cs
def zek{α:Type _}(enc:α->List SV)(xs:List α):List SV:=
 match xs with
 | []=>[]
 | x::xs=>enc x++zek enc xs
def zAl(lm:Nat->Option Mem)(s:SV)(K:Int->Prop):Prop:=
 match s with
 | .sl _ xs=>xs.length<=9223372036854775807->K xs.length
 |.own k=>(match lm k with
  | some (.arr _ _ _ xs)=>xs.length<=281474976710656->K xs.length
  | some (.garr _ _ xs)=>xs.length<=281474976710656->K xs.length
  | _=>False)
 | .val (.slice none 0 0)=>K 0
 | .nils=>K 0
 | .win _ _ _ n=>Ob (0<=n) (K n)
 | _=>False
def zsX(s:List SV)(K:IntKind->List Int->Prop):Prop:=
 match s with
 |.val (.int k m)::r=>(match r with
  | []=>K k [m]
  | _=>zsX r fun _ l=>K k (m::l))
 | _=>False
def zcE:Int->List Int->Int
 | x,[]=>x
 | x,y::r=>zcE (min x y) r
def ze4:Int->List Int->Int
 | x,[]=>x
 | x,y::r=>ze4 (max x y) r
def zbT{α:Type}(lm:Nat->Option Mem)(s:SV)(enc:α->List SV)(ys:List α):Prop:=
 match s with
 | .val (.slice none 0 0)=>ys=[]
 | .own k=>zgX lm (.own k)=.sl enc ys
 | s=>s=.sl enc ys
inductive Sl (p q:Prop) (r:Prop:=False):Prop
 | see (h:p)
 | keep (h:q)
 | win (h:r)
def zhG(Γ:List (TypeId×TI))(tys:List TypeId)(s x:SV)(lm:Nat->Option Mem)(κ:Nat)(K:SV->MD->Prop):Prop:=
 match tys with
 |[t,t']=>zK (Nat.beq t t') (kv Γ t fun i=>(match i.kind with
  |.slice e=>kv Γ e fun j=>(match s with
   | .val (.slice none 0 0)=>∃(α:Type) (enc:α->List SV) (ys:List α),zbT lm x enc ys/\
     Ob ((ys.length:Int)*j.bytes<=140737488355328/\ys.length<=281474976710656/\0 < j.sz/\∀x∈ys,(enc x).length=j.sz) (K (.own κ) (.push (.arr e enc j.sz ys)))
   |.own k=>(match lm k with
    |some (.arr e' enc sz xs)=>zK (Nat.beq e e') (zK (Nat.beq sz j.sz) (∃ys,zbT lm x enc ys/\
     Ob ((xs.length+ys.length:Int)*j.bytes<=140737488355328/\xs.length+ys.length<=281474976710656/\0 < j.sz/\∀x∈ys,(enc x).length=j.sz)
      (K (.own κ) (.repl k (.arr e enc sz (xs++ys))))))
    |some (.garr e' sz xs)=>zK (Nat.beq e e') (zK (Nat.beq sz j.sz) (∃(α:Type) (enc:α->List SV) (ys:List α),zbT lm x enc ys/\
     Ob ((xs.length+ys.length:Int)*j.bytes<=140737488355328/\xs.length+ys.length<=281474976710656/\0 < j.sz/\∀x∈ys,(enc x).length=j.sz)
      (K (.own κ) (.repl k (.garr e sz (xs++ys.map enc))))))
    | _=>False)
   | .full enc xs=>∃ys,zbT lm x enc ys/\
     Ob (ys≠[]/\(xs.length+ys.length:Int)*j.bytes<=140737488355328/\xs.length+ys.length<=281474976710656/\0 < j.sz/\(∀x∈xs,(enc x).length=j.sz)/\∀x∈ys,(enc x).length=j.sz)
      (K (.own κ) (.push (.arr e enc j.sz (xs++ys))))
   | .nils=>Sl (∃(α:Type) (enc:α->List SV) (ys:List α),zbT lm x enc ys/\
     Ob (ys≠[]/\(ys.length:Int)*j.bytes<=140737488355328/\ys.length<=281474976710656/\0 < j.sz/\∀x∈ys,(enc x).length=j.sz) (K (.own κ) (.push (.arr e enc j.sz ys))))
     (∃(α:Type) (enc:α->List SV),zbT lm x enc ([]:List α)/\0 < j.sz/\K .nils .none)
   | _=>False)
  | _=>False))
 | _=>False
def zh4(Γ:List (TypeId×TI))(tys:List TypeId)(s:SV)(e':TypeId)(sz':Nat)(ys:List (List SV))(lm:Nat->Option Mem)(κ:Nat)(K:SV->MD->Prop):Prop:=
 match tys with
 |[t,t']=>zK (Nat.beq t t') (kv Γ t fun i=>(match i.kind with
  |.slice e=>kv Γ e fun j=>zK (Nat.beq e e') (zK (Nat.beq sz' j.sz) (match s with
   | .val (.slice none 0 0)=>Ob ((ys.length:Int)*j.bytes<=140737488355328/\ys.length<=281474976710656/\0 < j.sz) (K (.own κ) (.push (.garr e j.sz ys)))
   |.own k=>(match lm k with
    | some (.garr e'' sz xs)=>zK (Nat.beq e e'') (zK (Nat.beq sz j.sz)
      (Ob ((xs.length+ys.length:Int)*j.bytes<=140737488355328/\xs.length+ys.length<=281474976710656/\0 < j.sz) (K (.own κ) (.repl k (.garr e sz (xs++ys))))))
    | _=>False)
   | _=>False))
  | _=>False))
 | _=>False
def zrg(Γ:List (TypeId×TI))(tys:List TypeId)(s:SV)(n:Int)(κ:Nat)(K:SV->MD->Prop):Prop:=
 match tys,s with
 |[t,t'],.val (.slice none 0 0)=>kv Γ t fun i=>kv Γ t' fun i'=>(match i.kind,i'.kind with
  | .slice e,.int _=>kv Γ e fun j=>∃(α:Type) (enc:α->List SV) (z:α),
    enc z=vals j.zero/\Ob (0 < j.sz/\0 < n/\n*j.bytes<=140737488355328/\n<=281474976710656) (K (.own κ) (.push (.arr e enc j.sz (List.replicate n.toNat z))))
  | _,_=>False)
 | _,_=>False
def ze5(lm:Nat->Option Mem)(k:Nat)(T:TypeId){α:Type}(enc:α->List SV)(sz:Nat)(xs:List α)(lo n:Int)(x:SV)(K:SV->MD->Prop):Prop:=
 ∃ys,zbT lm x enc ys/\Ob (0 < sz/\0<=lo/\0<=n/\lo+n<=xs.length/\∀y∈ys,(enc y).length=sz)
  (K (.val (.int .i64 (min ys.length n.toNat:Nat))) (.set k (.arr T enc sz (xs.take lo.toNat++(ys.take n.toNat++xs.drop (lo.toNat+min ys.length n.toNat))))))
def zh5(Γ:List (TypeId×TI))(b:Builtin)(tys:List TypeId)(args:List SV)(lm:Nat->Option Mem)(κ:Nat)(K:SV->MD->Prop):Prop:=
 match b,args with
 |.len,[s]=>(match tys with
  |[t]=>kv Γ t fun i=>(match i.kind with
   | .slice _=>zAl lm s fun n=>K (.val (.int .i64 n)) .none
   | _=>False)
  | _=>False)
 |.cap,[s]=>(match tys with
  |[t]=>kv Γ t fun i=>(match i.kind with
   |.slice _=>(match s with
    | .val (.slice none 0 0)=>K (.val (.int .i64 0)) .none
    | .nils=>K (.val (.int .i64 0)) .none
    | _=>False)
   | _=>False)
  | _=>False)
 |.min,s=>zsX s fun k l=>(match l with
  | x::r=>K (.val (.int k (zcE x r))) .none
  | []=>False)
 |.max,s=>zsX s fun k l=>(match l with
  | x::r=>K (.val (.int k (ze4 x r))) .none
  | []=>False)
 |.append,[s,x]=>(match x with
  | .val (.int _ n)=>zrg Γ tys s n κ K
  |.own k'=>(match lm k' with
   | some (.garr e' sz' ys)=>zh4 Γ tys s e' sz' ys lm κ K
   | _=>zhG Γ tys s (.own k') lm κ K)
  | x=>zhG Γ tys s x lm κ K)
 |.copy,[d,x]=>(match tys with
  |[t,_]=>kv Γ t fun i=>(match i.kind with
   |.slice e=>kv Γ e fun j=>(match d with
    |.own k=>(match lm k with
     | some (.arr T enc sz xs)=>zK (Nat.beq sz j.sz) (ze5 lm k T enc sz xs 0 xs.length x K)
     | _=>False)
    |.win k sz' lo n=>(match lm k with
     | some (.arr T enc sz xs)=>zK (Nat.beq sz j.sz) (zK (Nat.beq sz' sz) (ze5 lm k T enc sz xs lo n x K))
     | _=>False)
    | _=>False)
   | _=>False)
  | _=>False)
 |.clear,[d]=>(match tys with
  |[t]=>kv Γ t fun i=>(match i.kind with
   |.slice e=>kv Γ e fun j=>(match d with
    |.win k sz' lo n=>(match lm k with
     | some (.arr T (α:=α) enc sz xs)=>zK (Nat.beq sz j.sz) (zK (Nat.beq sz' sz) (∃z:α,enc z=vals j.zero/\
       Ob (0<=lo/\0 < n/\lo+n<=xs.length) (K (.val (.tuple #[])) (.set k (.arr T enc sz (xs.take lo.toNat++(List.replicate n.toNat z++xs.drop (lo.toNat+n.toNat))))))))
     | _=>False)
    | _=>False)
   | _=>False)
  | _=>False)
 | _,_=>False
def zuZ(Γ:List (TypeId×TI))(t:TypeId)(s:SV)(lm:Nat->Option Mem)(K:SV->MD->Prop):Prop:=
 kv Γ t fun i=>(match s with
  |.loc k off=>(match lm k with
   | some (.box _ cs)=>zK (Nat.ble (off+i.sz) cs.length) (mkV i.kind.agg i.sz (cs.drop off) fun s=>K s .none)
   | _=>False)
  | .ptr cs=>zK (Nat.ble i.sz cs.length) (mkV i.kind.agg i.sz cs fun s=>K s .none)
  | .dptr cs=>zK (Nat.ble i.sz cs.length) (mkV i.kind.agg i.sz cs fun s=>K s .none)
  |.eloc k sz n off=>(match lm k with
   | some (.arr _ enc sz' xs)=>zK (Nat.beq sz sz') (zK (Nat.ble (off+i.sz) sz) (Ob (0<=n/\n < xs.length) (∀x,xs[n.toNat]? =some x->
     mkV i.kind.agg i.sz ((enc x).drop off) fun s=>K s .none)))
   | some (.garr _ sz' xs)=>zK (Nat.beq sz sz') (zK (Nat.ble (off+i.sz) sz) (Ob (0<=n/\n < xs.length) (∀x,xs[n.toNat]? =some x->
     mkV i.kind.agg i.sz (x.drop off) fun s=>K s .none)))
   | _=>False)
  | _=>False)
def zpJ(Γ:List (TypeId×TI))(t:TypeId)(s v:SV)(lm:Nat->Option Mem)(K:SV->MD->Prop):Prop:=
 kv Γ t fun i=>zK (jI (kE v)) (zK (Nat.beq (kE v).length i.sz) (match s with
  |.loc k off=>(match lm k with
   | some (.box T cs)=>zK (Nat.ble (off+i.sz) cs.length) (K (.val undef) (.set k (.box T (j8 cs off (kE v)))))
   | _=>False)
  |.eloc k sz n off=>(match lm k with
   |some (.arr T (α:=α) enc sz' xs)=>zK (Nat.beq sz sz') (zK (Nat.ble (off+i.sz) sz) (match jW.flats (kE v) with
    |true=>(Ob (0<=n/\n < xs.length) (∀x,xs[n.toNat]? =some x->
     ∃x':α,enc x'=j8 (enc x) off (kE v)/\K (.val undef) (.set k (.arr T enc sz (xs.set n.toNat x')))))
    |false=>(Ob (0<=n/\n < xs.length) (∀x,xs[n.toNat]? =some x->
     K (.val undef) (.set k (.garr T sz ((xs.map enc).set n.toNat (j8 (enc x) off (kE v)))))))))
   | some (.garr T sz' xs)=>zK (Nat.beq sz sz') (zK (Nat.ble (off+i.sz) sz) (Ob (0<=n/\n < xs.length) (∀x,xs[n.toNat]? =some x->
     K (.val undef) (.set k (.garr T sz (xs.set n.toNat (j8 x off (kE v))))))))
   | _=>False)
  | _=>False))
def zu0(hi mx:Option Operand):Bool:=
 match mx,hi with
 | some _,none=>false
 | _,_=>true
def zu1:Option Operand->Bool
 |some (.const (.int _ n))=>(match n with
  | .ofNat m=>Nat.beq m 0
  | _=>false)
 | _=>false
inductive zu2 (p q:Prop):Prop
 | sl (h:p)
 | full (h:q)
def zbf:Option Operand->Bool
 | none=>true
 | _=>false
def zpK(Γ:List (TypeId×TI))(t:TypeId)(lo hi mx:Option Operand)(svs:List SV)(lm:Nat->Option Mem)(κ:Nat)(K:SV->MD->Prop):Prop:=
 zK (zu0 hi mx) (match svs with
 |s::rest=>kv Γ t fun i=>(match i.kind with
  |.slice e=>kv Γ e fun j=>(match s with
   |.sl enc xs=>(match y9 (zu1 hi) (zu1 mx) with
    | true=>jY lo rest 0 fun l rest=>jY hi rest 0 fun h rest=>jY mx rest 0 fun m _=>Ob (l=0/\h=0/\m=0) (K .nils .none)
    |false=>jY lo rest 0 fun l rest=>jY hi rest xs.length fun h rest=>jY mx rest xs.length fun m _=>(match zbf mx with
     | true=>Ob ((0<=l/\l<=h/\h<=m/\m<=xs.length)/\∀x∈xs,(enc x).length=j.sz) (K (.sl enc ((xs.drop l.toNat).take (h - l).toNat)) .none)
     | false=>zu2 (Ob ((0<=l/\l<=h/\h<=m/\m<=xs.length)/\∀x∈xs,(enc x).length=j.sz) (K (.sl enc ((xs.drop l.toNat).take (h - l).toNat)) .none))
      (Ob ((0<=l/\l<=h/\h=m/\m<=xs.length)/\∀x∈xs,(enc x).length=j.sz) (K (.full enc ((xs.drop l.toNat).take (h - l).toNat)) .none))))
   | .val (.slice none 0 0)=>jY lo rest 0 fun l rest=>jY hi rest 0 fun h rest=>jY mx rest 0 fun m _=>Ob (l=0/\h=0/\m=0) (K (.val (.slice none 0 0)) .none)
   |.own k=>(match lm k with
    |some (.arr T enc sz xs)=>zK (Nat.beq sz j.sz) (jY lo rest 0 fun l rest=>jY hi rest xs.length fun h rest=>jY mx rest xs.length fun m _=>
     Sl (Ob (0<=l/\l<=h/\h<=m/\m<=xs.length) (K (.sl enc ((xs.drop l.toNat).take (h - l).toNat)) (.drop k)))
      (zK (zbf mx) (Ob (l=0/\0<=h/\h<=xs.length) (K (.own κ) (.repl k (.arr T enc sz (xs.take h.toNat))))))
      (Ob (0<=l/\l < h/\h<=m/\m<=xs.length) (K (.win k sz l (h - l)) .none)))
    | some (.garr T sz xs)=>zK (Nat.beq sz j.sz) (zK (zbf mx) (jY lo rest 0 fun l rest=>jY hi rest xs.length fun h _=>
      (Ob (l=0/\0<=h/\h<=xs.length) (K (.own κ) (.repl k (.garr T sz (xs.take h.toNat)))))))
    | _=>False)
   | _=>False)
  | _=>False)
 | []=>False)
def zkq(Γ:List (TypeId×TI))(t:TypeId)(lo hi mx:Option Operand)(cs:List SV)(K:SV->MD->Prop):Prop:=
 zK (y9 (zbf lo) (y9 (zbf hi) (zbf mx))) (kv Γ t fun i=>(match i.kind with
  | .arr n e=>kv Γ e fun j=>∃(α:Type) (enc:α->List SV) (xs:List α),zek enc xs=cs/\
    Ob (xs.length=n/\n<=281474976710656/\∀x∈xs,(enc x).length=j.sz) (K (.sl enc xs) .none)
  | _=>False))
def zlV(Γ:List (TypeId×TI))(t:TypeId)(lo hi mx:Option Operand)(svs:List SV)(lm:Nat->Option Mem)(κ:Nat)(K:SV->MD->Prop):Prop:=
 match svs with
 | [.dptr cs]=>zkq Γ t lo hi mx cs K
 | svs=>zpK Γ t lo hi mx svs lm κ K
inductive zkb (p q:Prop):Prop
 | own (h:p)
 | data (h:q)
def boxV(Γ:List (TypeId×TI))(e:TypeId)(s:SV)(κ:Nat)(K:SV->MD->Prop):Prop:=
 zK (jI (kE s)) (match ti Γ e with
  |some i=>(match i.kind with
   |.arr _ _=>(match jW.flats (kE s) with
    | true=>zkb (K (.loc κ 0) (.push (.box e (kE s)))) (K (.dptr (kE s)) .none)
    | false=>K (.loc κ 0) (.push (.box e (kE s))))
   | _=>K (.loc κ 0) (.push (.box e (kE s))))
  | none=>K (.loc κ 0) (.push (.box e (kE s))))
def zey(Γ:List (TypeId×TI))(t:TypeId)(f:Nat)(s:SV)(K:SV->MD->Prop):Prop:=
 kv Γ t fun i=>(match i.kind with
  |.struct fs=>(match znh fs f with
   |some (off,ft)=>kv Γ ft fun j=>zK (Nat.blt 0 j.sz) (match s with
    | .loc k o'=>K (.loc k (o'+off)) .none
    | .ptr cs=>K (.ptr (cs.drop off)) .none
    | .dptr cs=>K (.dptr (cs.drop off)) .none
    | .eloc k sz i o'=>K (.eloc k sz i (o'+off)) .none
    | _=>False)
   | none=>False)
  | _=>False)
def zez(Γ:List (TypeId×TI))(t:TypeId)(s n:SV)(lm:Nat->Option Mem)(K:SV->MD->Prop):Prop:=
 kv Γ t fun i=>(match n with
  |.val (.int _ n)=>(match i.kind with
   |.slice e=>kv Γ e fun j=>(match s with
    | .sl enc xs=>Ob (0<=n/\n < xs.length) (∀x,xs[n.toNat]? =some x->zK (Nat.beq (enc x).length j.sz) (K (.ptr (enc x)) .none))
    |.own k=>(match lm k with
     | some (.arr _ _ sz xs)=>zK (Nat.beq sz j.sz) (Ob (0<=n/\n < xs.length) (K (.eloc k sz n 0) .none))
     | some (.garr _ sz xs)=>zK (Nat.beq sz j.sz) (Ob (0<=n/\n < xs.length) (K (.eloc k sz n 0) .none))
     | _=>False)
    | .win k sz lo l=>zK (Nat.beq sz j.sz) (Ob (0<=lo/\0<=n/\n < l) (K (.eloc k sz (lo+n) 0) .none))
    | _=>False)
   |.arr len e=>kv Γ e fun j=>(match n with
    |.ofNat m=>zK (Nat.blt m len) (match s with
     | .loc k off=>K (.loc k (off+m*j.sz)) .none
     | .ptr cs=>K (.ptr (cs.drop (m*j.sz))) .none
     | .dptr cs=>K (.dptr (cs.drop (m*j.sz))) .none
     | .eloc k sz i' o'=>K (.eloc k sz i' (o'+m*j.sz)) .none
     | _=>False)
    | _=>False)
   | _=>False)
  | _=>False)
def zpL(Γ:List (TypeId×TI))(t:TypeId)(s n:SV)(K:SV->MD->Prop):Prop:=
 kv Γ t fun i=>(match i.kind,s,n with
  |.arr len e,.agg cs,.val (.int _ n)=>kv Γ e fun j=>(match n with
   | .ofNat m=>zK (Nat.blt m len) (zK (Nat.ble (m*j.sz+j.sz) cs.length) (mkV j.kind.agg j.sz (cs.drop (m*j.sz)) fun s=>K s .none))
   | _=>False)
  | .str,.val (.string s),.val (.int _ n)=>Ob (0<=n/\n < s.size) (∀b:UInt8,s[n.toNat]? =some b->K (.val (.int .u8 b.toNat)) .none)
  | _,_,_=>False)
def zpM(Γ:List (TypeId×TI))(t:TypeId)(ids:List Nat)(svs:List SV)(K:SV->MD->Prop):Prop:=
 kv Γ t fun i=>(match i.kind with
  | .struct fs=>zK (zbe (zh3 Γ fs) i.sz ids svs) (K (.agg (zbS (zh3 Γ fs) ids svs (vals i.zero))) .none)
  | .arr _ e=>kv Γ e fun j=>zK (zbe (vV j.sz) i.sz ids svs) (K (.agg (zbS (vV j.sz) ids svs (vals i.zero))) .none)
  | _=>False)
def zAU:SV->Bool
 | .loc _ _=>false
 | .own _=>false
 | .eloc _ _ _ _=>false
 | .win _ _ _ _=>false
 | .ptr _=>false
 | .agg cs=>jW.flats cs
 | _=>true
def selB:List SV->Bool
 | []=>true
 | s::r=>match zAU s with
  | true=>selB r
  | false=>false
def zcF(Γ:List (TypeId×TI))(t:TypeId)(n:Nat)(ids:List Nat)(svs:List SV)(κ:Nat)(K:SV->MD->Prop):Prop:=
 kv Γ t fun i=>(match i.kind with
  | .slice e=>kv Γ e fun j=>zK (zbe (vV j.sz) (n*j.sz) ids svs) (match selB svs with
    |true=>(∃(α:Type) (enc:α->List SV) (xs:List α),
     zek enc xs=zbS (vV j.sz) ids svs (rep n (vals j.zero))/\
     Ob (xs.length=n/\n<=281474976710656/\n*j.sz<=16777216/\0 < j.sz/\∀x∈xs,(enc x).length=j.sz/\jI (enc x)=true/\jW.flats (enc x)=true) (K (.own κ) (.push (.arr e enc j.sz xs))))
    |false=>zK (jI (zbS (vV j.sz) ids svs (rep n (vals j.zero)))) (∃(xs:List (List SV)),
     zek id xs=zbS (vV j.sz) ids svs (rep n (vals j.zero))/\
     Ob (xs.length=n/\n<=281474976710656/\n*j.sz<=16777216/\0 < j.sz/\∀x∈xs,x.length=j.sz) (K (.own κ) (.push (.garr e j.sz xs)))))
  | _=>False)
def zeA(Γ:List (TypeId×TI))(t:TypeId)(l c:SV)(κ:Nat)(K:SV->MD->Prop):Prop:=
 kv Γ t fun i=>(match i.kind,l,c with
  | .slice e,.val (.int _ n),.val (.int _ m)=>kv Γ e fun j=>∃(α:Type) (enc:α->List SV) (z:α),
    enc z=vals j.zero/\Ob (0 < j.sz/\0<=n/\n<=m/\m*j.bytes<=281474976710656/\m<=281474976710656) (K (.own κ) (.push (.arr e enc j.sz (List.replicate n.toNat z))))
  | _,_,_=>False)
def zu3(c a b:SV)(K:SV->MD->Prop):Prop:=
 match c with
 | .val (.bool true)=>K a .none
 | .val (.bool false)=>K b .none
 | .pr p _=>Br (p->K a .none) (¬p->K b .none)
 | _=>False
def unV(op:UnOp)(s:SV)(K:SV->MD->Prop):Prop:=
 match op,s with
 | .not,.val (.bool true)=>K (.val (.bool false)) .none
 | .not,.val (.bool false)=>K (.val (.bool true)) .none
 | .not,.pr p i=>K (.pr (¬p) (@instDecidableNot _ i)) .none
 | .neg,.val (.int k n)=>zj9 k (- n) fun s=>K s .none
 | _,_=>False
def uT:Option Operand->List Operand
 | none=>[]
 | some x=>[x]
def zbU:Callee->List Operand
 | .value f=>[f]
 | .invoke r _=>[r]
 | .builtin _=>[]
def kN:Op->List Operand
 | .move x=>[x]
 | .assign x=>[x]
 | .pick c a b=>[c,a,b]
 | .box _ x=>[x]
 | .build _ ps=>ps.toList.map (·.2)
 | .buildSlice _ _ ps=>ps.toList.map (·.2)
 | .load _ a=>[a]
 | .store _ a x=>[a,x]
 | .nilCheck x=>[x]
 | .binOp _ _ x y _=>[x,y]
 | .unOp _ _ x=>[x]
 | .convert _ _ x=>[x]
 | .makeFunc _ first caps=>first.toList++caps.toList
 | .makeSlice _ l c=>[l,c]
 | .makeInterface _ x=>[x]
 | .typeAssert x _ _ _=>[x]
 | .makeMap _ r=>uT r
 | .mapUpdate _ m k x=>[m,k,x]
 | .insert _ m k x=>[m,k,x]
 | .lookup _ m k _=>[m,k]
 | .slice _ x lo hi mx=>x::(uT lo++(uT hi++uT mx))
 | .fieldAddr _ x _=>[x]
 | .field _ x _=>[x]
 | .indexAddr _ x i=>[x,i]
 | .index _ x i=>[x,i]
 | .extract x _=>[x]
 | .call c=>zbU c.callee++c.args.toList
 | _=>[]
def zu4(es:List (Int×SV))(n:Int)(K1:SV->Prop)(K0:Prop):Prop:=
 List.rec (motive:=fun _=>Prop) K0 (fun x _ ih=>match x with
  | (k,s)=>Br (n=k->K1 s) (¬n=k->ih)) es
def zu5(es:List (Int×SV))(n:Int)(s:SV):(List (Int×SV)->Prop)->Prop:=
 List.rec (motive:=fun _=>(List (Int×SV)->Prop)->Prop) (fun K=>K [(n,s)]) (fun x r ih K=>match x with
  | (k,s')=>Br (n=k->K ((n,s)::r)) (¬n=k->ih fun r'=>K ((k,s')::r'))) es
def zh6(Γ:List (TypeId×TI))(t:TypeId)(svs:List SV)(κ:Nat)(K:SV->MD->Prop):Prop:=
 kv Γ t fun i=>(match i.kind with
  |.map _ _=>(match svs with
   | []=>K (.own κ) (.push (.map []))
   | .val (.int _ _)::_=>K (.own κ) (.push (.map []))
   | _=>False)
  | _=>False)
def vi(Γ:List (TypeId×TI))(t:TypeId)(m k s:SV)(lm:Nat->Option Mem)(K:SV->MD->Prop):Prop:=
 kv Γ t fun i=>(match i.kind with
  |.map kt _=>kv Γ kt fun j=>(match j.kind,m,k with
   |.int .i64,.own c,.val (.int .i64 n)=>(match lm c with
    | some (.map es)=>zK (jW s) (zu5 es n s fun es'=>K (.val undef) (.set c (.map es')))
    | _=>False)
   | _,_,_=>False)
  | _=>False)
def zcu(ok:Bool)(s:SV)(b:Bool)(K:SV->MD->Prop):Prop:=
 match ok with
 | true=>K (.tup [s,.val (.bool b)]) .none
 | false=>zaa s fun s=>K s .none
def zlW(Γ:List (TypeId×TI))(t:TypeId)(ok:Bool)(m k:SV)(lm:Nat->Option Mem)(K:SV->MD->Prop):Prop:=
 kv Γ t fun i=>(match i.kind with
  |.map kt et=>kv Γ kt fun j=>kv Γ et fun z=>(match j.kind,m,k with
   |.int .i64,.own c,.val (.int .i64 n)=>(match lm c with
    | some (.map es)=>zu4 es n (fun s=>zcu ok s true K) (mkV z.kind.agg z.sz (vals z.zero) fun s=>zcu ok s false K)
    | _=>False)
   | _,_,_=>False)
  | _=>False)
def zh7(Γ:List (TypeId×TI))(t:TypeId)(s:SV)(K:SV->MD->Prop):Prop:=
 kv Γ t fun i=>(match i.kind with
  | .iface=>False
  | .other=>False
  | _=>K (.ifc t s) .none)
def zlX(t:TypeId)(ok:Bool)(s:SV)(Z:Prop)(K:SV->MD->Prop):Prop:=
 match s with
 |.ifc t' s'=>(match Nat.beq t' t with
  | true=>zcu ok s' true K
  |false=>(match ok with
   | true=>Z
   | false=>False))
 |.val .nilIface=>(match ok with
  | true=>Z
  | false=>False)
 | _=>False
def zlY(Γ:List (TypeId×TI))(t:TypeId)(ok:Bool)(s:SV)(K:SV->MD->Prop):Prop:=
 kv Γ t fun i=>(match i.kind with
  | .iface=>False
  | .other=>False
  | _=>zlX t ok s (mkV i.kind.agg i.sz (vals i.zero) fun s=>zcu true s false K) K)
def zlZ(P:Program)(t:TypeId)(name:String)(f:FuncId):Bool:=
 (match P.underlying t with
  | some (.struct _)=>true
  | _=>false)&&(match P.info? t with
  |some i=>(match i.methods.find? (·.name==name) with
   |some m=>m.path.isEmpty&&(match m.func with
    | some (g,p)=>Nat.beq g f&&!p
    | none=>false)
   | none=>false)
  | none=>false)
def zrh:List SV->(List Value->Prop)->Prop
 | [],K=>K []
 | .val v::r,K=>zrh r fun vs=>K (v::vs)
 | _,_=>False
def conc(s:SV)(K:Value->Prop):Prop:=
 match s with
 | .val v=>K v
 | .agg cs=>zrh cs fun vs=>K (.agg vs.toArray)
 | _=>False
def zri:List SV->(List Value->Prop)->Prop
 | [],K=>K []
 | s::r,K=>conc s fun v=>zri r fun vs=>K (v::vs)
def zu6:List SV->Bool
 | []=>true
 | .val _::r=>zu6 r
 | _=>false
def zu7:List SV->Bool
 | []=>true
 | .val _::r=>zu7 r
 | .agg cs::r=>y9 (zu6 cs) (zu7 r)
 | _=>false
def ofV(v:Value):SV:=
 match v with
 | .agg a=>.agg (a.toList.map .val)
 | v=>.val v
def opV(P:Program)(Γ:List (TypeId×TI))(op:Op)(svs:List SV)(lm:Nat->Option Mem)(κ:Nat)(K:SV->MD->Prop):Prop:=
 match op,svs with
 | .move _,[s]=>K s .none
 | .assign _,[s]=>K s .none
 | .pick _ _ _,[c,a,b]=>zu3 c a b K
 | .alloc e,_=>kv Γ e fun i=>K (.loc κ 0) (.push (.box e (vals i.zero)))
 | .box e _,[s]=>boxV Γ e s κ K
 | .build t ps,svs=>zpM Γ t (ps.toList.map (·.1)) svs K
 | .buildSlice t n ps,svs=>zcF Γ t n (ps.toList.map (·.1)) svs κ K
 | .load t _,[s]=>zuZ Γ t s lm K
 | .store t _ _,[s,v]=>zpJ Γ t s v lm K
 |.nilCheck _,[s]=>(match s with
  | .loc k off=>K (.loc k off) .none
  | .ptr cs=>K (.ptr cs) .none
  | .dptr cs=>K (.dptr cs) .none
  | .eloc k sz i off=>K (.eloc k sz i off) .none
  | .ifc t s=>K (.ifc t s) .none
  | _=>False)
 | .binOp op t _ y _,[a,b]=>bin Γ op t y a b fun s=>K s .none
 | .unOp op _ _,[s]=>unV op s K
 |.convert s0 t _,[s]=>kv Γ s0 fun _=>kv Γ t fun i=>(match i.kind,s with
  | .int k,.val (.int _ n)=>zj9 k n fun s=>K s .none
  | _,_=>False)
 |.makeFunc fn first caps,svs=>(match fn with
  |.func f=>(match first.isEmpty with
   | true=>K (.fn f svs) .none
   |false=>zK caps.isEmpty (match zu7 svs with
    | true=>zri svs fun vs=>K (.val (.func (.func f) vs.toArray #[])) .none
    | false=>zK (jW.flats svs) (K (.bm f svs) .none)))
  | _=>False)
 | .makeSlice t _ _,[l,c]=>zeA Γ t l c κ K
 | .slice t _ lo hi mx,svs=>zlV Γ t lo hi mx svs lm κ K
 | .fieldAddr t _ f,[s]=>zey Γ t f s K
 |.field t _ f,[s]=>kv Γ t fun i=>(match i.kind,s with
  |.struct fs,.agg cs=>(match znh fs f with
   | some (off,ft)=>kv Γ ft fun j=>zK (Nat.ble (off+j.sz) cs.length) (mkV j.kind.agg j.sz (cs.drop off) fun s=>K s .none)
   | none=>False)
  | _,_=>False)
 | .indexAddr t _ _,[s,n]=>zez Γ t s n lm K
 | .index t _ _,[s,n]=>zpL Γ t s n K
 |.extract _ n,[s]=>(match s with
  |.tup vs=>(match vs.drop n with
   | v::_=>zaa v fun v=>K v .none
   | []=>False)
  | _=>False)
 | .makeInterface t _,[s]=>zh7 Γ t s K
 | .typeAssert _ _ t ok,[s]=>zlY Γ t ok s K
 | .makeMap t _,svs=>zh6 Γ t svs κ K
 | .mapUpdate t _ _ _,[m,k,s]=>vi Γ t m k s lm K
 | .insert t _ _ _,[m,k,s]=>vi Γ t m k s lm K
 | .lookup t _ _ ok,[m,k]=>zlW Γ t ok m k lm K
 |.call c,svs=>(match c.callee with
  |.value _=>(match svs with
   | .fn f caps::args=>zb P lm κ f (args++caps) K
   | .val (.func (.func f) first ⟨[]⟩)::args=>zb P lm κ f (first.toList.map ofV++args) K
   | .dfn f caps::args=>zb P lm κ f (args++caps) K
   | .bm f first::args=>zb P lm κ f (first++args) K
   | _=>False)
  |.invoke _ name=>(match svs with
   | .ifc t s::args=>∃f,zlZ P t name f=true/\zb P lm κ f (s::args) K
   | _=>False)
  | .builtin b=>zh5 Γ b c.argTypes.toList svs lm κ K)
 | _,_=>False
def zcG(M:List (Nat×Mem))(κ k:Nat):Option Mem:=
 match Nat.blt k κ with
 | true=>zN M k
 | false=>none
def zkr(d:Option Tmp)(nt:Nat)(K:Prop):Prop:=
 match d with
 | some d=>zK (Nat.blt d nt) K
 | none=>K
def zcv:Op->Bool
 | .load _ _=>true
 | .store _ _ _=>true
 | .slice _ _ _ _ _=>true
 | .indexAddr _ _ _=>true
 | .mapUpdate _ _ _ _=>true
 | .insert _ _ _ _=>true
 | .lookup _ _ _ _=>true
 | .call _=>true
 | _=>false
def zu8:Op->Bool
 |.call c=>(match c.callee with
  | .builtin .append=>true
  | .builtin .copy=>true
  | _=>false)
 | _=>false
def isW:Op->Bool
 | .store _ _ _=>true
 | .mapUpdate _ _ _ _=>true
 | .insert _ _ _ _=>true
 | o=>zu8 o
def zcH:Op->Bool
 | .store _ _ _=>true
 | .alloc _=>true
 | .box _ _=>true
 | .buildSlice _ _ _=>true
 | .makeSlice _ _ _=>true
 | .makeMap _ _=>true
 | .mapUpdate _ _ _ _=>true
 | .insert _ _ _ _=>true
 | o=>zu8 o
def zpN(acc:List Nat)(o:Oper):Nat:=o.after.toList.foldl (fun s e=>if Region.binds .any e then s|||2 ^ e.on|||acc.getD e.on 0 else s) 0
def za0(all:List Oper):Nat->List Nat
 | 0=>[]
 | j+1=>let acc:=za0 all j;acc++[match all[j]? with | some o=>zpN acc o | none=>0]
def zcI:List Oper->Nat->Option Tmp
 | [],_=>none
 | o::_,0=>o.dst
 | _::r,n+1=>zcI r n
def zgd:List Operand->List Nat
 | []=>[]
 | .tmp t::r=>t::zgd r
 | _::r=>zgd r
def zbV(all:List Oper)(o:Oper):List Nat:=
 zgd (kN o.op)++(match o.guard with
  |some (j,_)=>(match zcI all j with
   | some t=>[t]
   | none=>[])
  | none=>[])
def ub(o:Oper):List Nat:=o.dst.toList
def zcJ(a b:List Nat):Bool:=a.any fun x=>b.any fun y=>Nat.beq x y
def zsY(all:List Oper)(oi oj:Oper):Bool:=
 (zcH oi.op&&zcv oj.op)||(zcv oi.op&&isW oj.op)||zcJ (ub oi) (zbV all oj)||zcJ (ub oi) (ub oj)||zcJ (zbV all oi) (ub oj)
def zhH(ops:List Oper):Bool:=
 (List.range ops.length).all fun j=>(match ops[j]? with
  | some o=>o.after.toList.all fun e=>!Region.binds .any e||Nat.blt e.on j
  | none=>true)
def uU(ops:List Oper):Bool:=
 let ms:=za0 ops ops.length
 zhH ops&&(List.range ops.length).all fun j=>(List.range j).all fun i=>(ms.getD j 0).testBit i||!(match ops[i]?,ops[j]? with
  | some oi,some oj=>zsY ops oi oj
  | _,_=>false)
def zl0(ops:List Oper)(i:Nat):Bool:=
 let ms:=za0 ops ops.length
 (List.range ops.length).all fun j=>Nat.ble j i||(ms.getD j 0).testBit i||!(match ops[j]? with
  | some oj=>zcv oj.op
  | none=>false)
def mdV(draw:Bool)(all:List Oper)(i κ:Nat)(op:Op)(md:MD)(K:Prop):Prop:=
 match draw with
 | false=>K
 |true=>(match isW op with
  |true=>(match md with
   | .drop _=>False
   | .set k _=>zK (Nat.blt k κ) K
   | .repl k _=>zK (Nat.blt k κ) K
   | .give _ _ _=>False
   | _=>K)
  |false=>(match md with
   | .none=>K
   |.push _=>(match zcH op with
    | true=>K
    | false=>Dr (zl0 all i=true) K False)
   | _=>False))
def zu9(n:Nat):(Nat->Prop)->Prop:=
 Nat.rec (motive:=fun _=>(Nat->Prop)->Prop) (fun K=>K 0) (fun _ ih K=>ih fun m=>K (m+1)) n
theorem zeB:∀{n:Nat} {K:Nat->Prop},zu9 n K->K n
 | 0,_,h=>h
 | n+1,_,h=>zeB (n:=n) h
def zl1(l:List SV):(List SV->Prop)->Prop:=
 List.rec (motive:=fun _=>(List SV->Prop)->Prop) (fun K=>K []) (fun c _ ih K=>ih fun r=>K (c::r)) l
theorem za1:∀{l:List SV} {K:List SV->Prop},zl1 l K->K l
 | [],_,h=>h
 | c::l,K,h=>za1 (l:=l) (K:=fun r=>K (c::r)) h
def zl2(s:SV)(K:SV->Prop):Prop:=
 match s with
 | .agg cs=>zl1 cs fun cs=>K (.agg cs)
 | s=>K s
theorem zcK{s:SV}{K:SV->Prop}(h:zl2 s K):K s:=by
 unfold zl2 at h
 split at h
 ·exact za1 (K:=fun cs=>K (.agg cs)) h
 ·exact h
def zl3(md:MD)(K:MD->Prop):Prop:=
 match md with
 |.push m=>(match m with
  | .box T cs=>zl1 cs fun cs=>K (.push (.box T cs))
  | m=>K (.push m))
 |.set k m=>(match m with
  | .box T cs=>zl1 cs fun cs=>K (.set k (.box T cs))
  | m=>K (.set k m))
 | md=>K md
theorem zcL{md:MD}{K:MD->Prop}(h:zl3 md K):K md:=by
 unfold zl3 at h
 split at h
 ·split at h
  ·rename_i T cs;exact za1 (K:=fun cs=>K (.push (.box T cs))) h
  ·exact h
 ·rename_i k _;split at h
  ·rename_i T cs;exact za1 (K:=fun cs=>K (.set k (.box T cs))) h
  ·exact h
 ·exact h
def St.withK(σ:St)(κ:Nat):St:=⟨σ.L,σ.M,κ,σ.nt,σ.n0⟩
def zcM(P:Program)(Γ:List (TypeId×TI))(draw:Bool)(all:List Oper)(i:Nat)(o:Oper)(σ:St)(K:St->Prop):Prop:=
 zu9 σ.nk fun κ=>evs σ.L (kN o.op) fun svs=>opV P Γ o.op svs (zcG σ.M κ) κ fun s md=>zl2 s fun s=>zl3 md fun md=>mdV draw all i κ o.op md (zkr o.dst σ.nt (K ((σ.withK κ).app o.dst s md)))
def vX(o:Oper)(σ:St)(K:St->Prop):Prop:=zkr o.dst σ.nt (K (σ.app o.dst (.val undef) .none))
def uL(P:Program)(Γ:List (TypeId×TI))(draw:Bool)(all:List Oper)(l:List Oper):Nat->St->(St->Prop)->Prop:=
 List.rec (motive:=fun _=>Nat->St->(St->Prop)->Prop) (fun _ σ K=>K σ) (fun o _ ih i σ K=>match o.guard with
  | none=>zcM P Γ draw all i o σ fun σ=>ih (i+1) σ K
  |some (j,want)=>(match zcI all j with
   | none=>False
   |some t=>(match kM σ.L t with
    |some (.val (.bool true))=>(match want with
     | true=>zcM P Γ draw all i o σ fun σ=>ih (i+1) σ K
     | false=>vX o σ fun σ=>ih (i+1) σ K)
    |some (.val (.bool false))=>(match want with
     | false=>zcM P Γ draw all i o σ fun σ=>ih (i+1) σ K
     | true=>vX o σ fun σ=>ih (i+1) σ K)
    |some (.pr p _)=>(match want with
     | true=>Br (p->zcM P Γ draw all i o (σ.put (some t) (.val (.bool true))) fun σ=>ih (i+1) σ K)
       (¬p->vX o (σ.put (some t) (.val (.bool false))) fun σ=>ih (i+1) σ K)
     | false=>Br (p->vX o (σ.put (some t) (.val (.bool true))) fun σ=>ih (i+1) σ K)
       (¬p->zcM P Γ draw all i o (σ.put (some t) (.val (.bool false))) fun σ=>ih (i+1) σ K))
    | some (.val (.tuple _))=>vX o σ fun σ=>ih (i+1) σ K
    | _=>False))) l
def zAm:SV->List Nat
 | .loc k _=>[k]
 | .own k=>[k]
 | .eloc k _ _ _=>[k]
 | .win k _ _ _=>[k]
 | _=>[]
def zcN:List SV->List Nat
 | []=>[]
 | c::cs=>zAm c++zcN cs
def zh8:List SV->Bool
 | []=>true
 |c::cs=>(match c with
  | .val _=>zh8 cs
  | .pr _ _=>zh8 cs
  | .sl _ _=>zh8 cs
  | _=>false)
def zge:List SV->Bool
 | []=>true
 |c::cs=>(match c with
  | .val _=>zge cs
  | .pr _ _=>zge cs
  | .sl _ _=>zge cs
  |.agg xs=>(match zh8 xs with
   | true=>zge cs
   | false=>false)
  |.fn _ xs=>(match zh8 xs with
   | true=>zge cs
   | false=>false)
  | _=>false)
def znl(op:Op)(svs:List SV):Option (List Nat):=
 match op with
 |.call c=>(match c.callee with
  | .builtin _=>some (zcN svs)
  |_=>(match zge svs with
   | true=>some []
   | false=>none))
 |.store _ _ _=>(match svs with
  | s::_=>some (zAm s)
  | []=>some [])
 | .load _ _=>some (zcN svs)
 | .slice _ _ _ _ _=>some (zcN svs)
 | .indexAddr _ _ _=>some (zcN svs)
 | .mapUpdate _ _ _ _=>some (zcN svs)
 | .insert _ _ _ _=>some (zcN svs)
 | .lookup _ _ _ _=>some (zcN svs)
 | _=>some []
structure Ent where
 u:Option (List Nat)
 nk:Nat
 t:List Nat
def zeg(k:Nat):List Nat->Bool
 | []=>false
 | x::r=>match Nat.beq x k with
  | true=>true
  | false=>zeg k r
def zcO(u:Option (List Nat))(nk k:Nat):Bool:=
 match u with
 | none=>Nat.blt k nk
 | some l=>zeg k l
def lmU(u:Option (List Nat))(nk:Nat)(lm:Nat->Option Mem)(k:Nat):Option Mem:=
 match zcO u nk k with
 | true=>lm k
 | false=>none
def zpO(κ:Nat):Nat->List Nat
 | 0=>[]
 | n+1=>(κ+n)::zpO κ n
def zgf(κ:Nat):MD->List Nat
 | .none=>[]
 | .push _=>[κ]
 | .set k _=>[k]
 | .drop k=>[k]
 | .repl k _=>[k,κ]
 | .give ks _ nn=>ks++zpO κ nn
def zrj(e:Ent):List Nat->Bool
 | []=>false
 | k::r=>match zcO e.u e.nk k with
  | true=>true
  | false=>match zeg k e.t with
   | true=>true
   | false=>zrj e r
def zrk(x:Ent):List Nat->Bool
 | []=>false
 | k::r=>match zcO x.u x.nk k with
  | true=>true
  | false=>zrk x r
def znm(x e:Ent):Bool:=
 match zrj e x.t with
 | true=>true
 | false=>zrk x e.t
def prOK(m:Nat)(e:Ent):List Ent->Bool
 | []=>true
 | x::r=>(m.testBit r.length||!znm x e)&&prOK m e r
def zh9(ms:List Nat):List Ent->Bool
 | []=>true
 | e::r=>prOK (ms.getD r.length 0) e r&&zh9 ms r
def zia(all:List Oper)(oi oj:Oper):Bool:=
 zcJ (ub oi) (zbV all oj)||zcJ (ub oi) (ub oj)||zcJ (zbV all oi) (ub oj)
def zeC(ops:List Oper):Bool:=
 let ms:=za0 ops ops.length
 zhH ops&&(List.range ops.length).all fun j=>(List.range j).all fun i=>(ms.getD j 0).testBit i||!(match ops[i]?,ops[j]? with
  | some oi,some oj=>zia ops oi oj
  | _,_=>false)
def mdD(κ:Nat)(md:MD)(K:Prop):Prop:=
 match md with
 | .drop k=>zK (Nat.blt k κ) K
 | .set k _=>zK (Nat.blt k κ) K
 | .repl k _=>zK (Nat.blt k κ) K
 | .give ks new nn=>zK (y9 (newB ks κ nn new) (zlS new κ nn)) K
 | _=>K
def za2(P:Program)(Γ:List (TypeId×TI))(o:Oper)(σ:St)(K:Ent->St->Prop):Prop:=
 zu9 σ.nk fun κ=>evs σ.L (kN o.op) fun svs=>opV P Γ o.op svs (lmU (znl o.op svs) κ (zcG σ.M κ)) κ fun s md=>zl2 s fun s=>zl3 md fun md=>mdD κ md (zkr o.dst σ.nt (K ⟨znl o.op svs,κ,zgf κ md⟩ ((σ.withK κ).app o.dst s md)))
def zks:Ent:=⟨some [],0,[]⟩
def zav(P:Program)(Γ:List (TypeId×TI))(all:List Oper)(l:List Oper):Nat->List Ent->St->(St->Prop)->Prop:=
 List.rec (motive:=fun _=>Nat->List Ent->St->(St->Prop)->Prop) (fun _ acc σ K=>Ob (zh9 (za0 all all.length) acc=true) (K σ)) (fun o _ ih i acc σ K=>match o.guard with
  | none=>za2 P Γ o σ fun e σ=>ih (i+1) (e::acc) σ K
  |some (j,want)=>(match zcI all j with
   | none=>False
   |some t=>(match kM σ.L t with
    |some (.val (.bool true))=>(match want with
     | true=>za2 P Γ o σ fun e σ=>ih (i+1) (e::acc) σ K
     | false=>vX o σ fun σ=>ih (i+1) (zks::acc) σ K)
    |some (.val (.bool false))=>(match want with
     | false=>za2 P Γ o σ fun e σ=>ih (i+1) (e::acc) σ K
     | true=>vX o σ fun σ=>ih (i+1) (zks::acc) σ K)
    |some (.pr p _)=>(match want with
     | true=>Br (p->za2 P Γ o (σ.put (some t) (.val (.bool true))) fun e σ=>ih (i+1) (e::acc) σ K)
       (¬p->vX o (σ.put (some t) (.val (.bool false))) fun σ=>ih (i+1) (zks::acc) σ K)
     | false=>Br (p->vX o (σ.put (some t) (.val (.bool true))) fun σ=>ih (i+1) (zks::acc) σ K)
       (¬p->za2 P Γ o (σ.put (some t) (.val (.bool false))) fun e σ=>ih (i+1) (e::acc) σ K))
    | some (.val (.tuple _))=>vX o σ fun σ=>ih (i+1) (zks::acc) σ K
    | _=>False))) l
inductive Ex
 | normal
 | exit (id:Nat)
 | ret
def Sub(σ σ':St):Prop:=∀(E:Env) ρ a w,Rel E σ ρ a w->∃ρ',Rel E σ' ρ' a w
def jJ(P:Program)(Γ:List (TypeId×TI))(c:Code):St->(Ex->St->Prop)->Prop:=
 Code.rec (motive:=fun _=>St->(Ex->St->Prop)->Prop)
  (fun σ Q=>Q .normal σ)
  (fun _ ops draw σ Q=>match draw with
   | false=>uL P Γ false ops.toList ops.toList 0 σ (Q .normal)
   | true=>Dr (uU ops.toList=true) (uL P Γ true ops.toList ops.toList 0 σ (Q .normal))
     (Ob (zeC ops.toList=true) (zav P Γ ops.toList ops.toList 0 [] σ (Q .normal))))
  (fun _ _ ha hb σ Q=>ha σ fun e σ=>(match e with
   | .normal=>hb σ Q
   | .exit id=>Q (.exit id) σ
   | .ret=>Q .ret σ))
  (fun c _ _ hx hy σ Q=>ev σ.L c fun c=>(match c with
   | .val (.bool true)=>hx σ Q
   | .val (.bool false)=>hy σ Q
   | .pr p _=>Br (p->hx σ Q) (¬p->hy σ Q)
   | .anyb=>Br (hx σ Q) (hy σ Q)
   | _=>False))
  (fun id _ hc σ Q=>hc σ fun e σ=>(match e with
   | .normal=>Q .normal σ
   |.exit j=>(match Nat.beq j id with
    | true=>Q .normal σ
    | false=>Q (.exit j) σ)
   | .ret=>Q .ret σ))
  (fun _ hc σ Q=>∃(ι:Type) (S:ι->St) (I:ι->Prop) (μ:ι->Nat) (x0:ι),I x0/\Sub σ (S x0)/\
   ∀x,I x->hc (S x) fun e σ'=>(match e with
    | .normal=>∃x',I x'/\Sub σ' (S x')/\μ x' < μ x
    | .exit id=>Q (.exit id) σ'
    | .ret=>Q .ret σ'))
  (fun _ _ _ _ _ _ _ _=>False)
  (fun id σ Q=>Q (.exit id) σ)
  (fun _ hc σ Q=>hc σ Q)
  (fun _ σ Q=>Q .normal σ)
  (fun _ _ _=>False)
  (fun σ Q=>Q .ret σ)
  (fun _ _ _=>False)
  c
def zpP(σ:St)(Γ:List (TypeId×TI))(x:ResultVar)(K:SV->Prop):Prop:=
 match x with
 |.tmp t=>(match kM σ.L t with
  | some s=>zaa s fun s=>K s
  | none=>False)
 |.cell a t=>kv Γ t fun i=>(match kM σ.L a with
  |some (.loc k off)=>(match zN σ.M k with
   | some (.box _ cs)=>zK (Nat.ble (off+i.sz) cs.length) (mkV i.kind.agg i.sz (cs.drop off) fun s=>K s)
   | _=>False)
  | _=>False)
def zva(σ:St)(Γ:List (TypeId×TI))(xs:List ResultVar):(List SV->Prop)->Prop:=
 List.rec (motive:=fun _=>(List SV->Prop)->Prop) (fun K=>K []) (fun x _ ih K=>zpP σ Γ x fun s=>ih fun l=>K (s::l)) xs
def zbo(σ:St)(Γ:List (TypeId×TI))(rs:List ResultVar)(K:SV->Prop):Prop:=
 zva σ Γ rs fun l=>match l with
  | [s]=>K s
  | l=>K (.tup l)
def jS:Nat->List SV->List (Nat×SV)
 | _,[]=>[]
 | n,a::r=>(n,a)::jS (n+1) r
def zkt(lm:Nat->Option Mem)(s:SV):SV:=
 match s with
 | .tup cs=>.tup (zlP lm cs)
 | s=>zgX lm s
def endV(Γ:List (TypeId×TI))(rs:List ResultVar)(r:SV)(e:Ex)(σ:St):Prop:=
 match e with
 | .exit _=>False
 | _=>zbo σ Γ rs fun s=>LE (zkt (zN σ.M) s) r
inductive zbg (k:Option Nat):SV->SV->Prop
 | own (k':Nat) (h:k=some k'):zbg k (.own k') (.own 0)
 | loc (k' off:Nat) (h:k=some k'):zbg k (.loc k' off) (.loc 0 off)
 | nil (h:k=none):zbg k (.val (.slice none 0 0)) (.own 0)
 | le (s r:SV) (h:LE s r) (hf:jW r=true):zbg k s r
 | junk (s:SV):zbg k s .junk
 | agg (cs ds:List SV) (hl:cs.length=ds.length) (h:∀(j:Nat) (s r:SV),cs[j]? =some s->ds[j]? =some r->zbg k s r):zbg k (.agg cs) (.agg ds)
 | tup (cs ds:List SV) (hl:cs.length=ds.length) (h:∀(j:Nat) (s r:SV),cs[j]? =some s->ds[j]? =some r->zbg k s r):zbg k (.tup cs) (.tup ds)
 | fn (f:FuncId) (cs ds:List SV) (hl:cs.length=ds.length) (h:∀(j:Nat) (s r:SV),cs[j]? =some s->ds[j]? =some r->zbg k s r):zbg k (.fn f cs) (.fn f ds)
def zAn(M:List (Nat×Mem))(k:Option Nat)(m:Mem):Prop:=
 match k with
 | some k=>zN M k=some m/\zgY m
 |none=>(match m with
  | .arr _ _ _ xs=>xs=[]
  | _=>False)
def zpQ(Γ:List (TypeId×TI))(rs:List ResultVar)(r:SV)(m:Mem)(e:Ex)(σ:St):Prop:=
 match e with
 | .exit _=>False
 | _=>zbo σ Γ rs fun s=>∃k,zbg k s r/\zAn σ.M k m
def zAV(Γ:List (TypeId×TI))(rs:List ResultVar)(r:SV)(m:Mem)(e:Ex)(σ:St):Prop:=
 match e with
 | .exit _=>False
 | _=>zbo σ Γ rs fun s=>(zN σ.M 0=some m/\LE s r)
end Go.Gs
