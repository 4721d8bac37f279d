/- The conditions that an operation, a region, a piece of code leave to be shown. -/
import Derived.Test.YtjgadnaphffpkaaGreatDoorMA
import Derived.Test.YtjgadnaphffpkaaGreatDoorMAA
import Derived.Laws.Rows
import Derived.Laws.Tables
import Derived.RowKit3
set_option maxRecDepth 100000
set_option maxHeartbeats 8000000
set_option linter.all false
namespace Go.Gs
def zhG:Mem->Prop
 | .box _ cs=>ym.flats cs=true
 | .arr _ enc _ xs=>∀x∈xs,ym.flats (enc x)=true
 | .garr _ _ _=>False
 | .map es=>ym.flats (es.map (·.2))=true
def give(lm:Nat->Option Mem)(k:Nat)(s:SV):SV:=
 match s with
 |.loc k' off=>(match Nat.beq k' k with
  | true=>.loc 0 off
  | false=>ziH lm (.loc k' off))
 |.own k'=>(match Nat.beq k' k with
  | true=>.own 0
  | false=>ziH lm (.own k'))
 |.win k' sz lo n=>(match Nat.beq k' k with
  | true=>.win 0 sz lo n
  | false=>ziH lm (.win k' sz lo n))
 | s=>ziH lm s
def zu3(lm:Nat->Option Mem)(k:Nat):List SV->List SV
 | []=>[]
 | c::cs=>give lm k c::zu3 lm k cs
def zk7(k:Nat):List SV->Bool
 | []=>true
 |.loc k' _::r=>(match Nat.beq k' k with
  | true=>false
  | false=>zk7 k r)
 | _::r=>zk7 k r
def zby(lm:Nat->Option Mem)(k:Nat):List SV->Bool
 | []=>true
 |.loc k' off::r=>(match Nat.beq k' k with
  | true=>zby lm k r
  | false=>uy (ux lm [.loc k' off]) (zby lm k r))
 |.own k'::r=>(match Nat.beq k' k with
  | true=>zby lm k r
  | false=>false)
 |.win k' _ _ _::r=>(match Nat.beq k' k with
  | true=>zby lm k r
  | false=>false)
 | .fn f cs::r=>uy (zk7 k cs) (uy (ux lm [.fn f cs]) (zby lm k r))
 | s::r=>uy (ux lm [s]) (zby lm k r)
def zih:Mem->Prop
 | .box _ cs=>uz.scalars cs=true
 | .arr _ enc _ xs=>∀x∈xs,uz.scalars (enc x)=true
 | .garr _ _ _=>False
 | .map es=>uz.scalars (es.map (·.2))=true
def mv(κ:Nat):SV->SV
 | .own _=>.own κ
 | .loc _ off=>.loc κ off
 | .agg cs=>.agg (mvs κ cs)
 | .tup cs=>.tup (mvs κ cs)
 | .fn f cs=>.fn f (mvs κ cs)
 | .ifc t s=>.ifc t (mv κ s)
 | s=>s
 where
 mvs (κ:Nat):List SV->List SV
  | []=>[]
  | c::cs=>mv κ c::mvs κ cs
def zaM:SV->Bool
 | .own k=>Nat.beq k 0
 | .loc k _=>Nat.beq k 0
 | .val _=>true
 | .pr _ _=>true
 | .junk=>true
 | .agg cs=>mvOKs cs
 | .tup cs=>mvOKs cs
 | .fn _ cs=>mvOKs cs
 | .ifc _ s=>zaM s
 | _=>false
 where
 mvOKs:List SV->Bool
  | []=>true
  | c::cs=>match zaM c with
   | true=>mvOKs cs
   | false=>false
def zu4:Option Mem->Bool
 | some (.arr _ _ _ _)=>true
 | _=>false
def zu5(lm:Nat->Option Mem)(k:Nat):List SV->Bool
 | []=>true
 |.own k'::r=>(match Nat.beq k' k with
  | true=>zu5 lm k r
  | false=>false)
 | s::r=>uy (ux lm [s]) (zu5 lm k r)
def LE(s r:SV):Prop:=∀S Pm ρ w v,G S Pm ρ w s v->G S Pm ρ w r v
inductive LEs:List SV->List SV->Prop
 | nil:LEs [] []
 | cons {a b:SV} {za bs:List SV} (h:LE a b) (t:LEs za bs):LEs (a::za) (b::bs)
def rn(ks:List Nat)(κ j:Nat):Nat:=
 match ks[j]? with
 | some k=>k
 | none=>κ+(j - ks.length)
def zaw(ks:List Nat)(κ:Nat):SV->SV
 | .loc k off=>.loc (rn ks κ k) off
 | .own k=>.own (rn ks κ k)
 | .eloc k sz i off=>.eloc (rn ks κ k) sz i off
 | .win k sz lo n=>.win (rn ks κ k) sz lo n
 | .agg cs=>.agg (rens ks κ cs)
 | .tup cs=>.tup (rens ks κ cs)
 | .fn f cs=>.fn f (rens ks κ cs)
 | .ifc t s=>.ifc t (zaw ks κ s)
 | s=>s
 where
 rens (ks:List Nat) (κ:Nat):List SV->List SV
  | []=>[]
  | c::cs=>zaw ks κ c::rens ks κ cs
def vE(n:Nat):SV->Bool
 | .loc k _=>Nat.blt k n
 | .own k=>Nat.blt k n
 | .eloc k _ _ _=>Nat.blt k n
 | .win k _ _ _=>Nat.blt k n
 | .agg cs=>lows n cs
 | .tup cs=>lows n cs
 | .fn _ cs=>lows n cs
 | .ifc _ s=>vE n s
 | _=>true
 where
 lows (n:Nat):List SV->Bool
  | []=>true
  | c::cs=>match vE n c with
   | true=>lows n cs
   | false=>false
def zce(n:Nat):SV->Bool
 | .loc k _=>Nat.blt k n
 | .own k=>Nat.blt k n
 | .eloc k _ _ _=>Nat.blt k n
 | .win k _ _ _=>Nat.blt k n
 | .ptr _=>false
 | .agg cs=>outs n cs
 | .tup cs=>outs n cs
 | .fn _ cs=>outs n cs
 | .ifc _ s=>zce n s
 | _=>true
 where
 outs (n:Nat):List SV->Bool
  | []=>true
  | c::cs=>match zce n c with
   | true=>outs n cs
   | false=>false
def zkQ(ks:List Nat)(κ:Nat):Mem->Mem
 | .box T cs=>.box T (zaw.rens ks κ cs)
 | .garr T sz xs=>.garr T sz (xs.map (zaw.rens ks κ))
 | m=>m
def zbg(ks:List Nat)(κ:Nat):List (Nat×Mem)->List (Nat×Mem)
 | []=>[]
 | (j,m)::r=>(rn ks κ j,zkQ ks κ m)::zbg ks κ r
def lowM(n:Nat):Mem->Prop
 | .box _ cs=>vE.lows n cs=true
 | .garr _ _ xs=>∀x∈xs,vE.lows n x=true
 | _=>True
def outM(n:Nat):Mem->Prop
 | .box _ cs=>zce.outs n cs=true
 | .garr _ _ xs=>∀x∈xs,zce.outs n x=true
 | _=>True
def zii(lm:Nat->Option Mem)(ks0:List Nat)(κ:Nat)(Mc:List (Nat×Mem)):Nat->List Nat->Prop
 | _,[]=>True
 | i,k::r=>(∃m,zY Mc i=some m/\lm k=some (zkQ ks0 κ m)/\lowM ks0.length m)/\zii lm ks0 κ Mc (i+1) r
def zms(n:Nat):List (Nat×Mem)->Prop
 | []=>True
 | (j,m)::r=>(Nat.blt j n=true/\outM n m)/\zms n r
def zqu(k:Nat):List Nat->Bool
 | []=>false
 | x::r=>match Nat.beq x k with
  | true=>true
  | false=>zqu k r
def zc2:List Nat->Bool
 | []=>true
 | x::r=>match zqu x r with
  | true=>false
  | false=>zc2 r
def zn2(n:Nat):List (Nat×Mem)->Bool
 | []=>true
 | (k,_)::r=>uy (Nat.blt k n) (zn2 n r)
def memM(k:Nat):List (Nat×Mem)->Bool
 | []=>false
 | (q,_)::r=>match Nat.beq q k with
  | true=>true
  | false=>memM k r
def ziJ:List (Nat×Mem)->Bool
 | []=>true
 | (k,_)::r=>match memM k r with
  | true=>false
  | false=>ziJ r
def newB(ks:List Nat)(κ nn:Nat):List (Nat×Mem)->Bool
 | []=>true
 | (k,_)::r=>uy (zqu k ks||(Nat.ble κ k&&Nat.blt k (κ+nn))) (newB ks κ nn r)
def zmt(k:Nat):List (Nat×Mem)->Bool
 | []=>false
 | (q,_)::r=>match Nat.beq q k with
  | true=>true
  | false=>zmt k r
def zmu(new:List (Nat×Mem))(κ:Nat):Nat->Bool
 | 0=>true
 | n+1=>uy (zmt (κ+n) new) (zmu new κ n)
def zmv(l:List SV):(List SV->Prop)->Prop:=
 List.rec (motive:=λ_=>(List SV->Prop)->Prop) (λK=>K []) (λc _ ih K=>zat c λc=>ih λr=>K (c::r)) l
def zmw(m:Mem)(K:Mem->Prop):Prop:=
 match m with
 | .box T cs=>zmv cs λcs=>K (.box T cs)
 | .arr T enc sz xs=>K (.arr T enc sz xs)
 | .garr T sz xs=>K (.garr T sz xs)
 | .map es=>K (.map es)
def zzW(n:Nat):(Nat->Prop)->Prop:=
 Nat.rec (motive:=λ_=>(Nat->Prop)->Prop) (λK=>K 0) (λ_ ih K=>ih λm=>K (m+1)) n
def zij(l:List (Nat×Mem)):(List (Nat×Mem)->Prop)->Prop:=
 List.rec (motive:=λ_=>(List (Nat×Mem)->Prop)->Prop) (λK=>K []) (λx _ ih K=>zzW x.1 λk=>zmw x.2 λm=>ih λr=>K ((k,m)::r)) l
inductive zb (P:Program) (lm:Nat->Option Mem) (κ:Nat) (f:FuncId) (args:List SV) (K:SV->MD->Prop):Prop
 | to (r:SV) (h:qF P f (zcR lm args) [] r []) (hr:zrL lm args r=true) (k:zat r λr=>K r .none)
 | fresh (m:Mem) (r:SV) (h:qF P f (zcR lm args) [] r [(0,m)]) (hr:zaM r=true) (hm:zhG m) (hc:ux lm args=true∨zih m) (k:zat (mv κ r) λr=>K r (.push m))
 | see (k:Nat) (r:SV) (h:qF P f (zcR lm args) [] r []) (hk:zu4 (lm k)=true) (hc:zu5 lm k args=true) (hr:ziG r=true) (kk:zat r λr=>K r (.drop k))
 | hand (k:Nat) (m m':Mem) (r:SV) (hk:lm k=some m) (h:qF P f (zu3 lm k args) [(0,m)] r [(0,m')])
   (hm:zhG m) (hm':zhG m') (hc:zby lm k args=true) (hr:ziG r=true) (k:zat r λr=>K r (.set k m'))
 | give (ks:List Nat) (nn:Nat) (args':List SV) (Mc M':List (Nat×Mem)) (r:SV) (h:qF P f args' Mc r M') (ha:LEs args (zaw.rens ks κ args')) (hl:vE.lows ks.length args'=true)
   (hn:zc2 ks=true) (hk:uy (Nat.beq Mc.length ks.length) (uy (zn2 ks.length Mc) (ziJ Mc))=true) (hM:zii lm ks κ Mc 0 ks) (hr:zce (ks.length+nn) r=true) (hM':zms (ks.length+nn) M')
   (k:zij (zbg ks κ M') λnew=>zat (zaw ks κ r) λr=>K r (.give ks new nn))
variable{P:Program}{f:FuncId}
theorem zb.t{lm:Nat->Option Mem}{κ:Nat}{args:List SV}{K:SV->MD->Prop}{r:SV}(h:qF P f (zcR lm args) [] r [])(k:zat r λr=>K r .none)(hr:zrL lm args r=true:=by rfl):zb P lm κ f args K:=.to r h hr k
def zk8(s:SV):Bool:=
 match s with
 |.val v=>(match v with
  | .agg _=>false
  | .tuple _=>false
  | _=>true)
 | .agg _=>false
 | .tup _=>false
 | .junk=>false
 | _=>true
def ya:List SV->Bool
 | []=>true
 | c::cs=>match zk8 c with
  | true=>ya cs
  | false=>false
def jA(o:Option Operand)(l:List SV)(dflt:Int)(K:Int->List SV->Prop):Prop:=
 match o with
 | none=>K dflt l
 | some _=>match l with
  | .val (.int _ n)::r=>K n r
  | _=>False
def fstO(p:Option (Nat×Nat)):Nat:=
 match p with
 | some (a,_)=>a
 | none=>0
def zcf(pl:Nat->Option (Nat×Nat)):List Nat->List SV->List SV->List SV
 | i::r,s::l,cs=>zcf pl r l (yn cs (fstO (pl i)) (kR s))
 | _,_,cs=>cs
def zbz(pl:Nat->Option (Nat×Nat))(n:Nat):List Nat->List SV->Bool
 |i::r,s::l=>(match pl i with
  | some (off,sz)=>uy (Nat.beq (kR s).length sz) (uy (Nat.ble (off+sz) n) (uy (ya (kR s)) (zbz pl n r l)))
  | none=>false)
 | [],[]=>true
 | _,_=>false
def ziK(Γ:List (TypeId×TI))(fs:List (Nat×TypeId))(i:Nat):Option (Nat×Nat):=
 match znZ fs i with
 |some (off,ft)=>(match ti Γ ft with
  | some j=>some (off,j.sz)
  | none=>none)
 | none=>none
def zai(sz i:Nat):Option (Nat×Nat):=some (i*sz,sz)
def rep{α:Type 1}(n:Nat)(cs:List α):List α:=
 match n with
 | 0=>[]
 | n+1=>cs++rep n cs
def zeC{α:Type _}(enc:α->List SV)(xs:List α):List SV:=
 match xs with
 | []=>[]
 | x::xs=>enc x++zeC enc xs
def zzX(lm:Nat->Option Mem)(s:SV)(K:Int->Prop):Prop:=
 match s with
 | .sl _ xs=>xs.length<=9223372036854775807->K xs.length
 |.own k=>(match lm k with
  | some (.arr _ _ _ xs)=>xs.length<=281474976710656->K xs.length
  | some (.garr _ _ xs)=>xs.length<=281474976710656->K xs.length
  | _=>False)
 | .val (.slice none 0 0)=>K 0
 | .nils=>K 0
 | .win _ _ _ n=>Ob (0<=n) (K n)
 | _=>False
def ztn(s:List SV)(K:IntKind->List Int->Prop):Prop:=
 match s with
 |.val (.int k m)::r=>(match r with
  | []=>K k [m]
  | _=>ztn r λ_ l=>K k (m::l))
 | _=>False
def zbA:Int->List Int->Int
 | x,[]=>x
 | x,y::r=>zbA (min x y) r
def zcX:Int->List Int->Int
 | x,[]=>x
 | x,y::r=>zcX (max x y) r
variable{α:Type}
def zcg(lm:Nat->Option Mem)(s:SV)(enc:α->List SV)(ys:List α):Prop:=
 match s with
 | .val (.slice none 0 0)=>ys=[]
 | .own k=>zhF lm (.own k)=.sl enc ys
 | s=>s=.sl enc ys
inductive Sl (p q:Prop) (r:Prop:=False):Prop
 | see (h:p)
 | keep (h:q)
 | win (h:r)
def zik(Γ:List (TypeId×TI))(tys:List TypeId)(s x:SV)(lm:Nat->Option Mem)(κ:Nat)(K:SV->MD->Prop):Prop:=
 match tys with
 |[t,t']=>zR (Nat.beq t t') (kE Γ t λi=>(match i.kind with
  |.slice e=>kE Γ e λj=>(match s with
   | .val (.slice none 0 0)=>∃(α:Type) (enc:α->List SV) (ys:List α),zcg lm x enc ys/\
     Ob ((ys.length:Int)*j.bytes<=140737488355328/\ys.length<=281474976710656/\0 < j.sz/\∀x∈ys,(enc x).length=j.sz) (K (.own κ) (.push (.arr e enc j.sz ys)))
   |.own k=>(match lm k with
    |some (.arr e' enc sz xs)=>zR (Nat.beq e e') (zR (Nat.beq sz j.sz) (∃ys,zcg lm x enc ys/\
     Ob ((xs.length+ys.length:Int)*j.bytes<=140737488355328/\xs.length+ys.length<=281474976710656/\0 < j.sz/\∀x∈ys,(enc x).length=j.sz)
      (K (.own κ) (.repl k (.arr e enc sz (xs++ys))))))
    |some (.garr e' sz xs)=>zR (Nat.beq e e') (zR (Nat.beq sz j.sz) (∃(α:Type) (enc:α->List SV) (ys:List α),zcg lm x enc ys/\
     Ob ((xs.length+ys.length:Int)*j.bytes<=140737488355328/\xs.length+ys.length<=281474976710656/\0 < j.sz/\∀x∈ys,(enc x).length=j.sz)
      (K (.own κ) (.repl k (.garr e sz (xs++ys.map enc))))))
    | _=>False)
   | .full enc xs=>∃ys,zcg lm x enc ys/\
     Ob (ys≠[]/\(xs.length+ys.length:Int)*j.bytes<=140737488355328/\xs.length+ys.length<=281474976710656/\0 < j.sz/\(∀x∈xs,(enc x).length=j.sz)/\∀x∈ys,(enc x).length=j.sz)
      (K (.own κ) (.push (.arr e enc j.sz (xs++ys))))
   | .nils=>Sl (∃(α:Type) (enc:α->List SV) (ys:List α),zcg lm x enc ys/\
     Ob (ys≠[]/\(ys.length:Int)*j.bytes<=140737488355328/\ys.length<=281474976710656/\0 < j.sz/\∀x∈ys,(enc x).length=j.sz) (K (.own κ) (.push (.arr e enc j.sz ys))))
     (∃(α:Type) (enc:α->List SV),zcg lm x enc ([]:List α)/\0 < j.sz/\K .nils .none)
   | _=>False)
  | _=>False))
 | _=>False
def ziL(Γ:List (TypeId×TI))(tys:List TypeId)(s:SV)(e':TypeId)(sz':Nat)(ys:List (List SV))(lm:Nat->Option Mem)(κ:Nat)(K:SV->MD->Prop):Prop:=
 match tys with
 |[t,t']=>zR (Nat.beq t t') (kE Γ t λi=>(match i.kind with
  |.slice e=>kE Γ e λj=>zR (Nat.beq e e') (zR (Nat.beq sz' j.sz) (match s with
   | .val (.slice none 0 0)=>Ob ((ys.length:Int)*j.bytes<=140737488355328/\ys.length<=281474976710656/\0 < j.sz) (K (.own κ) (.push (.garr e j.sz ys)))
   |.own k=>(match lm k with
    | some (.garr e'' sz xs)=>zR (Nat.beq e e'') (zR (Nat.beq sz j.sz)
      (Ob ((xs.length+ys.length:Int)*j.bytes<=140737488355328/\xs.length+ys.length<=281474976710656/\0 < j.sz) (K (.own κ) (.repl k (.garr e sz (xs++ys))))))
    | _=>False)
   | _=>False))
  | _=>False))
 | _=>False
def zrM(Γ:List (TypeId×TI))(tys:List TypeId)(s:SV)(n:Int)(κ:Nat)(K:SV->MD->Prop):Prop:=
 match tys,s with
 |[t,t'],.val (.slice none 0 0)=>kE Γ t λi=>kE Γ t' λi'=>(match i.kind,i'.kind with
  | .slice e,.int _=>kE Γ e λj=>∃(α:Type) (enc:α->List SV) (z:α),
    enc z=vals j.zero/\Ob (0 < j.sz/\0 < n/\n*j.bytes<=140737488355328/\n<=281474976710656) (K (.own κ) (.push (.arr e enc j.sz (List.replicate n.toNat z))))
  | _,_=>False)
 | _,_=>False
def zfy(lm:Nat->Option Mem)(k:Nat)(T:TypeId)(enc:α->List SV)(sz:Nat)(xs:List α)(lo n:Int)(x:SV)(K:SV->MD->Prop):Prop:=
 ∃ys,zcg lm x enc ys/\Ob (0 < sz/\0<=lo/\0<=n/\lo+n<=xs.length/\∀y∈ys,(enc y).length=sz)
  (K (.val (.int .i64 (min ys.length n.toNat:Nat))) (.set k (.arr T enc sz (xs.take lo.toNat++(ys.take n.toNat++xs.drop (lo.toNat+min ys.length n.toNat))))))
def ziM(Γ:List (TypeId×TI))(b:Builtin)(tys:List TypeId)(args:List SV)(lm:Nat->Option Mem)(κ:Nat)(K:SV->MD->Prop):Prop:=
 match b,args with
 |.len,[s]=>(match tys with
  |[t]=>kE Γ t λi=>(match i.kind with
   | .slice _=>zzX lm s λn=>K (.val (.int .i64 n)) .none
   | _=>False)
  | _=>False)
 |.cap,[s]=>(match tys with
  |[t]=>kE Γ t λi=>(match i.kind with
   |.slice _=>(match s with
    | .val (.slice none 0 0)=>K (.val (.int .i64 0)) .none
    | .nils=>K (.val (.int .i64 0)) .none
    | _=>False)
   | _=>False)
  | _=>False)
 |.min,s=>ztn s λk l=>(match l with
  | x::r=>K (.val (.int k (zbA x r))) .none
  | []=>False)
 |.max,s=>ztn s λk l=>(match l with
  | x::r=>K (.val (.int k (zcX x r))) .none
  | []=>False)
 |.append,[s,x]=>(match x with
  | .val (.int _ n)=>zrM Γ tys s n κ K
  |.own k'=>(match lm k' with
   | some (.garr e' sz' ys)=>ziL Γ tys s e' sz' ys lm κ K
   | _=>zik Γ tys s (.own k') lm κ K)
  | x=>zik Γ tys s x lm κ K)
 |.copy,[d,x]=>(match tys with
  |[t,_]=>kE Γ t λi=>(match i.kind with
   |.slice e=>kE Γ e λj=>(match d with
    |.own k=>(match lm k with
     | some (.arr T enc sz xs)=>zR (Nat.beq sz j.sz) (zfy lm k T enc sz xs 0 xs.length x K)
     | _=>False)
    |.win k sz' lo n=>(match lm k with
     | some (.arr T enc sz xs)=>zR (Nat.beq sz j.sz) (zR (Nat.beq sz' sz) (zfy lm k T enc sz xs lo n x K))
     | _=>False)
    | _=>False)
   | _=>False)
  | _=>False)
 |.clear,[d]=>(match tys with
  |[t]=>kE Γ t λi=>(match i.kind with
   |.slice e=>kE Γ e λj=>(match d with
    |.win k sz' lo n=>(match lm k with
     | some (.arr T (α:=α) enc sz xs)=>zR (Nat.beq sz j.sz) (zR (Nat.beq sz' sz) (∃z:α,enc z=vals j.zero/\
       Ob (0<=lo/\0 < n/\lo+n<=xs.length) (K (.val (.tuple #[])) (.set k (.arr T enc sz (xs.take lo.toNat++(List.replicate n.toNat z++xs.drop (lo.toNat+n.toNat))))))))
     | _=>False)
    | _=>False)
   | _=>False)
  | _=>False)
 | _,_=>False
def zu6(Γ:List (TypeId×TI))(t:TypeId)(s:SV)(lm:Nat->Option Mem)(K:SV->MD->Prop):Prop:=
 kE Γ t λi=>(match s with
  |.loc k off=>(match lm k with
   | some (.box _ cs)=>zR (Nat.ble (off+i.sz) cs.length) (mkV i.kind.agg i.sz (cs.drop off) λs=>K s .none)
   | _=>False)
  | .ptr cs=>zR (Nat.ble i.sz cs.length) (mkV i.kind.agg i.sz cs λs=>K s .none)
  | .dptr cs=>zR (Nat.ble i.sz cs.length) (mkV i.kind.agg i.sz cs λs=>K s .none)
  |.eloc k sz n off=>(match lm k with
   | some (.arr _ enc sz' xs)=>zR (Nat.beq sz sz') (zR (Nat.ble (off+i.sz) sz) (Ob (0<=n/\n < xs.length) (∀x,xs[n.toNat]? =some x->
     mkV i.kind.agg i.sz ((enc x).drop off) λs=>K s .none)))
   | some (.garr _ sz' xs)=>zR (Nat.beq sz sz') (zR (Nat.ble (off+i.sz) sz) (Ob (0<=n/\n < xs.length) (∀x,xs[n.toNat]? =some x->
     mkV i.kind.agg i.sz (x.drop off) λs=>K s .none)))
   | _=>False)
  | _=>False)
def zqv(Γ:List (TypeId×TI))(t:TypeId)(s v:SV)(lm:Nat->Option Mem)(K:SV->MD->Prop):Prop:=
 kE Γ t λi=>zR (ya (kR v)) (zR (Nat.beq (kR v).length i.sz) (match s with
  |.loc k off=>(match lm k with
   | some (.box T cs)=>zR (Nat.ble (off+i.sz) cs.length) (K (.val undef) (.set k (.box T (yn cs off (kR v)))))
   | _=>False)
  |.eloc k sz n off=>(match lm k with
   |some (.arr T (α:=α) enc sz' xs)=>zR (Nat.beq sz sz') (zR (Nat.ble (off+i.sz) sz) (match ym.flats (kR v) with
    |true=>(Ob (0<=n/\n < xs.length) (∀x,xs[n.toNat]? =some x->
     ∃x':α,enc x'=yn (enc x) off (kR v)/\K (.val undef) (.set k (.arr T enc sz (xs.set n.toNat x')))))
    |false=>(Ob (0<=n/\n < xs.length) (∀x,xs[n.toNat]? =some x->
     K (.val undef) (.set k (.garr T sz ((xs.map enc).set n.toNat (yn (enc x) off (kR v)))))))))
   | some (.garr T sz' xs)=>zR (Nat.beq sz sz') (zR (Nat.ble (off+i.sz) sz) (Ob (0<=n/\n < xs.length) (∀x,xs[n.toNat]? =some x->
     K (.val undef) (.set k (.garr T sz (xs.set n.toNat (yn x off (kR v))))))))
   | _=>False)
  | _=>False))
def zu7(hi mx:Option Operand):Bool:=
 match mx,hi with
 | some _,none=>false
 | _,_=>true
def zu8:Option Operand->Bool
 |some (.const (.int _ n))=>(match n with
  | .ofNat m=>Nat.beq m 0
  | _=>false)
 | _=>false
inductive zu9 (p q:Prop):Prop
 | sl (h:p)
 | full (h:q)
def zbB:Option Operand->Bool
 | none=>true
 | _=>false
def zqw(Γ:List (TypeId×TI))(t:TypeId)(lo hi mx:Option Operand)(svs:List SV)(lm:Nat->Option Mem)(κ:Nat)(K:SV->MD->Prop):Prop:=
 zR (zu7 hi mx) (match svs with
 |s::rest=>kE Γ t λi=>(match i.kind with
  |.slice e=>kE Γ e λj=>(match s with
   |.sl enc xs=>(match uy (zu8 hi) (zu8 mx) with
    | true=>jA lo rest 0 λl rest=>jA hi rest 0 λh rest=>jA mx rest 0 λm _=>Ob (l=0/\h=0/\m=0) (K .nils .none)
    |false=>jA lo rest 0 λl rest=>jA hi rest xs.length λh rest=>jA mx rest xs.length λm _=>(match zbB mx with
     | true=>Ob ((0<=l/\l<=h/\h<=m/\m<=xs.length)/\∀x∈xs,(enc x).length=j.sz) (K (.sl enc ((xs.drop l.toNat).take (h - l).toNat)) .none)
     | false=>zu9 (Ob ((0<=l/\l<=h/\h<=m/\m<=xs.length)/\∀x∈xs,(enc x).length=j.sz) (K (.sl enc ((xs.drop l.toNat).take (h - l).toNat)) .none))
      (Ob ((0<=l/\l<=h/\h=m/\m<=xs.length)/\∀x∈xs,(enc x).length=j.sz) (K (.full enc ((xs.drop l.toNat).take (h - l).toNat)) .none))))
   | .val (.slice none 0 0)=>jA lo rest 0 λl rest=>jA hi rest 0 λh rest=>jA mx rest 0 λm _=>Ob (l=0/\h=0/\m=0) (K (.val (.slice none 0 0)) .none)
   |.own k=>(match lm k with
    |some (.arr T enc sz xs)=>zR (Nat.beq sz j.sz) (jA lo rest 0 λl rest=>jA hi rest xs.length λh rest=>jA mx rest xs.length λm _=>
     Sl (Ob (0<=l/\l<=h/\h<=m/\m<=xs.length) (K (.sl enc ((xs.drop l.toNat).take (h - l).toNat)) (.drop k)))
      (zR (zbB mx) (Ob (l=0/\0<=h/\h<=xs.length) (K (.own κ) (.repl k (.arr T enc sz (xs.take h.toNat))))))
      (Ob (0<=l/\l < h/\h<=m/\m<=xs.length) (K (.win k sz l (h - l)) .none)))
    | some (.garr T sz xs)=>zR (Nat.beq sz j.sz) (zR (zbB mx) (jA lo rest 0 λl rest=>jA hi rest xs.length λh _=>
      (Ob (l=0/\0<=h/\h<=xs.length) (K (.own κ) (.repl k (.garr T sz (xs.take h.toNat)))))))
    | _=>False)
   | .win k sz at0 n=>zR (Nat.beq sz j.sz) (jA lo rest 0 λl rest=>jA hi rest n λh rest=>jA mx rest n λm _=>
     Ob (0<=at0/\0<=l/\l < h/\h<=m/\m<=n) (K (.win k sz (at0+l) (h - l)) .none))
   | _=>False)
  | _=>False)
 | []=>False)
def zk9(Γ:List (TypeId×TI))(t:TypeId)(lo hi mx:Option Operand)(cs:List SV)(K:SV->MD->Prop):Prop:=
 zR (uy (zbB lo) (uy (zbB hi) (zbB mx))) (kE Γ t λi=>(match i.kind with
  | .arr n e=>kE Γ e λj=>∃(α:Type) (enc:α->List SV) (xs:List α),zeC enc xs=cs/\
    Ob (xs.length=n/\n<=281474976710656/\∀x∈xs,(enc x).length=j.sz) (K (.sl enc xs) .none)
  | _=>False))
def zmx(Γ:List (TypeId×TI))(t:TypeId)(lo hi mx:Option Operand)(svs:List SV)(lm:Nat->Option Mem)(κ:Nat)(K:SV->MD->Prop):Prop:=
 match svs with
 | [.dptr cs]=>zk9 Γ t lo hi mx cs K
 | svs=>zqw Γ t lo hi mx svs lm κ K
inductive zfz (p q:Prop):Prop
 | own (h:p)
 | data (h:q)
def boxV(Γ:List (TypeId×TI))(e:TypeId)(s:SV)(κ:Nat)(K:SV->MD->Prop):Prop:=
 zR (ya (kR s)) (match ti Γ e with
  |some i=>(match i.kind with
   |.arr _ _=>(match ym.flats (kR s) with
    | true=>zfz (K (.loc κ 0) (.push (.box e (kR s)))) (K (.dptr (kR s)) .none)
    | false=>K (.loc κ 0) (.push (.box e (kR s))))
   | _=>K (.loc κ 0) (.push (.box e (kR s))))
  | none=>K (.loc κ 0) (.push (.box e (kR s))))
def zeX(Γ:List (TypeId×TI))(t:TypeId)(f:Nat)(s:SV)(K:SV->MD->Prop):Prop:=
 kE Γ t λi=>(match i.kind with
  |.struct fs=>(match znZ fs f with
   |some (off,ft)=>kE Γ ft λj=>zR (Nat.blt 0 j.sz) (match s with
    | .loc k o'=>K (.loc k (o'+off)) .none
    | .ptr cs=>K (.ptr (cs.drop off)) .none
    | .dptr cs=>K (.dptr (cs.drop off)) .none
    | .eloc k sz i o'=>K (.eloc k sz i (o'+off)) .none
    | _=>False)
   | none=>False)
  | _=>False)
def zeY(Γ:List (TypeId×TI))(t:TypeId)(s n:SV)(lm:Nat->Option Mem)(K:SV->MD->Prop):Prop:=
 kE Γ t λi=>(match n with
  |.val (.int _ n)=>(match i.kind with
   |.slice e=>kE Γ e λj=>(match s with
    | .sl enc xs=>Ob (0<=n/\n < xs.length) (∀x,xs[n.toNat]? =some x->zR (Nat.beq (enc x).length j.sz) (K (.ptr (enc x)) .none))
    |.own k=>(match lm k with
     | some (.arr _ _ sz xs)=>zR (Nat.beq sz j.sz) (Ob (0<=n/\n < xs.length) (K (.eloc k sz n 0) .none))
     | some (.garr _ sz xs)=>zR (Nat.beq sz j.sz) (Ob (0<=n/\n < xs.length) (K (.eloc k sz n 0) .none))
     | _=>False)
    | .win k sz lo l=>zR (Nat.beq sz j.sz) (Ob (0<=lo/\0<=n/\n < l) (K (.eloc k sz (lo+n) 0) .none))
    | _=>False)
   |.arr len e=>kE Γ e λj=>(match n with
    |.ofNat m=>zR (Nat.blt m len) (match s with
     | .loc k off=>K (.loc k (off+m*j.sz)) .none
     | .ptr cs=>K (.ptr (cs.drop (m*j.sz))) .none
     | .dptr cs=>K (.dptr (cs.drop (m*j.sz))) .none
     | .eloc k sz i' o'=>K (.eloc k sz i' (o'+m*j.sz)) .none
     | _=>False)
    | _=>False)
   | _=>False)
  | _=>False)
def zqx(Γ:List (TypeId×TI))(t:TypeId)(s n:SV)(K:SV->MD->Prop):Prop:=
 kE Γ t λi=>(match i.kind,s,n with
  |.arr len e,.agg cs,.val (.int _ n)=>kE Γ e λj=>(match n with
   | .ofNat m=>zR (Nat.blt m len) (zR (Nat.ble (m*j.sz+j.sz) cs.length) (mkV j.kind.agg j.sz (cs.drop (m*j.sz)) λs=>K s .none))
   | _=>False)
  | .str,.val (.string s),.val (.int _ n)=>Ob (0<=n/\n < s.size) (∀b:UInt8,s[n.toNat]? =some b->K (.val (.int .u8 b.toNat)) .none)
  | _,_,_=>False)
def zqy(Γ:List (TypeId×TI))(t:TypeId)(ids:List Nat)(svs:List SV)(K:SV->MD->Prop):Prop:=
 kE Γ t λi=>(match i.kind with
  | .struct fs=>zR (zbz (ziK Γ fs) i.sz ids svs) (K (.agg (zcf (ziK Γ fs) ids svs (vals i.zero))) .none)
  | .arr _ e=>kE Γ e λj=>zR (zbz (zai j.sz) i.sz ids svs) (K (.agg (zcf (zai j.sz) ids svs (vals i.zero))) .none)
  | _=>False)
def zAv:SV->Bool
 | .loc _ _=>false
 | .own _=>false
 | .eloc _ _ _ _=>false
 | .win _ _ _ _=>false
 | .ptr _=>false
 | .agg cs=>ym.flats cs
 | _=>true
def selB:List SV->Bool
 | []=>true
 | s::r=>match zAv s with
  | true=>selB r
  | false=>false
def zc3(Γ:List (TypeId×TI))(t:TypeId)(n:Nat)(ids:List Nat)(svs:List SV)(κ:Nat)(K:SV->MD->Prop):Prop:=
 kE Γ t λi=>(match i.kind with
  | .slice e=>kE Γ e λj=>zR (zbz (zai j.sz) (n*j.sz) ids svs) (match selB svs with
    |true=>(∃(α:Type) (enc:α->List SV) (xs:List α),
     zeC enc xs=zcf (zai j.sz) ids svs (rep n (vals j.zero))/\
     Ob (xs.length=n/\n<=281474976710656/\n*j.sz<=16777216/\0 < j.sz/\∀x∈xs,(enc x).length=j.sz/\ya (enc x)=true/\ym.flats (enc x)=true) (K (.own κ) (.push (.arr e enc j.sz xs))))
    |false=>zR (ya (zcf (zai j.sz) ids svs (rep n (vals j.zero)))) (∃(xs:List (List SV)),
     zeC id xs=zcf (zai j.sz) ids svs (rep n (vals j.zero))/\
     Ob (xs.length=n/\n<=281474976710656/\n*j.sz<=16777216/\0 < j.sz/\∀x∈xs,x.length=j.sz) (K (.own κ) (.push (.garr e j.sz xs)))))
  | _=>False)
def zeZ(Γ:List (TypeId×TI))(t:TypeId)(l c:SV)(κ:Nat)(K:SV->MD->Prop):Prop:=
 kE Γ t λi=>(match i.kind,l,c with
  | .slice e,.val (.int _ n),.val (.int _ m)=>kE Γ e λj=>∃(α:Type) (enc:α->List SV) (z:α),
    enc z=vals j.zero/\Ob (0 < j.sz/\0<=n/\n<=m/\m*j.bytes<=281474976710656/\m<=281474976710656) (K (.own κ) (.push (.arr e enc j.sz (List.replicate n.toNat z))))
  | _,_,_=>False)
def zva(c a b:SV)(K:SV->MD->Prop):Prop:=
 match c with
 | .val (.bool true)=>K a .none
 | .val (.bool false)=>K b .none
 | .pr p _=>Br (p->K a .none) (¬p->K b .none)
 | _=>False
def unV(op:UnOp)(s:SV)(K:SV->MD->Prop):Prop:=
 match op,s with
 | .not,.val (.bool true)=>K (.val (.bool false)) .none
 | .not,.val (.bool false)=>K (.val (.bool true)) .none
 | .not,.pr p i=>K (.pr (¬p) (@instDecidableNot _ i)) .none
 | .neg,.val (.int k n)=>zkP k (- n) λs=>K s .none
 | _,_=>False
def uH:Option Operand->List Operand
 | none=>[]
 | some x=>[x]
def zch:Callee->List Operand
 | .value f=>[f]
 | .invoke r _=>[r]
 | .builtin _=>[]
def qe:Op->List Operand
 | .move x=>[x]
 | .assign x=>[x]
 | .pick c a b=>[c,a,b]
 | .box _ x=>[x]
 | .build _ ps=>ps.toList.map (·.2)
 | .buildSlice _ _ ps=>ps.toList.map (·.2)
 | .load _ a=>[a]
 | .store _ a x=>[a,x]
 | .nilCheck x=>[x]
 | .binOp _ _ x y _=>[x,y]
 | .unOp _ _ x=>[x]
 | .convert _ _ x=>[x]
 | .makeFunc _ first caps=>first.toList++caps.toList
 | .makeSlice _ l c=>[l,c]
 | .makeInterface _ x=>[x]
 | .typeAssert x _ _ _=>[x]
 | .makeMap _ r=>uH r
 | .mapUpdate _ m k x=>[m,k,x]
 | .insert _ m k x=>[m,k,x]
 | .lookup _ m k _=>[m,k]
 | .slice _ x lo hi mx=>x::(uH lo++(uH hi++uH mx))
 | .fieldAddr _ x _=>[x]
 | .field _ x _=>[x]
 | .indexAddr _ x i=>[x,i]
 | .index _ x i=>[x,i]
 | .extract x _=>[x]
 | .call c=>zch c.callee++c.args.toList
 | _=>[]
def zvb(es:List (Int×SV))(n:Int)(K1:SV->Prop)(K0:Prop):Prop:=
 List.rec (motive:=λ_=>Prop) K0 (λx _ ih=>match x with
  | (k,s)=>Br (n=k->K1 s) (¬n=k->ih)) es
def zvc(es:List (Int×SV))(n:Int)(s:SV):(List (Int×SV)->Prop)->Prop:=
 List.rec (motive:=λ_=>(List (Int×SV)->Prop)->Prop) (λK=>K [(n,s)]) (λx r ih K=>match x with
  | (k,s')=>Br (n=k->K ((n,s)::r)) (¬n=k->ih λr'=>K ((k,s')::r'))) es
def ziN(Γ:List (TypeId×TI))(t:TypeId)(svs:List SV)(κ:Nat)(K:SV->MD->Prop):Prop:=
 kE Γ t λi=>(match i.kind with
  |.map _ _=>(match svs with
   | []=>K (.own κ) (.push (.map []))
   | .val (.int _ _)::_=>K (.own κ) (.push (.map []))
   | _=>False)
  | _=>False)
def vF(Γ:List (TypeId×TI))(t:TypeId)(m k s:SV)(lm:Nat->Option Mem)(K:SV->MD->Prop):Prop:=
 kE Γ t λi=>(match i.kind with
  |.map kt _=>kE Γ kt λj=>(match j.kind,m,k with
   |.int .i64,.own c,.val (.int .i64 n)=>(match lm c with
    | some (.map es)=>zR (ym s) (zvc es n s λes'=>K (.val undef) (.set c (.map es')))
    | _=>False)
   | _,_,_=>False)
  | _=>False)
def zcS(ok:Bool)(s:SV)(b:Bool)(K:SV->MD->Prop):Prop:=
 match ok with
 | true=>K (.tup [s,.val (.bool b)]) .none
 | false=>zat s λs=>K s .none
def zmy(Γ:List (TypeId×TI))(t:TypeId)(ok:Bool)(m k:SV)(lm:Nat->Option Mem)(K:SV->MD->Prop):Prop:=
 kE Γ t λi=>(match i.kind with
  |.map kt et=>kE Γ kt λj=>kE Γ et λz=>(match j.kind,m,k with
   |.int .i64,.own c,.val (.int .i64 n)=>(match lm c with
    | some (.map es)=>zvb es n (λs=>zcS ok s true K) (mkV z.kind.agg z.sz (vals z.zero) λs=>zcS ok s false K)
    | _=>False)
   | _,_,_=>False)
  | _=>False)
def ziO(Γ:List (TypeId×TI))(t:TypeId)(s:SV)(K:SV->MD->Prop):Prop:=
 kE Γ t λi=>(match i.kind with
  | .iface=>False
  | .other=>False
  | _=>K (.ifc t s) .none)
def zmz(t:TypeId)(ok:Bool)(s:SV)(Z:Prop)(K:SV->MD->Prop):Prop:=
 match s with
 |.ifc t' s'=>(match Nat.beq t' t with
  | true=>zcS ok s' true K
  |false=>(match ok with
   | true=>Z
   | false=>False))
 |.val .nilIface=>(match ok with
  | true=>Z
  | false=>False)
 | _=>False
def zmA(Γ:List (TypeId×TI))(t:TypeId)(ok:Bool)(s:SV)(K:SV->MD->Prop):Prop:=
 kE Γ t λi=>(match i.kind with
  | .iface=>False
  | .other=>False
  | _=>zmz t ok s (mkV i.kind.agg i.sz (vals i.zero) λs=>zcS true s false K) K)
def zmB(P:Program)(t:TypeId)(name:String)(f:FuncId):Bool:=
 (match P.underlying t with
  | some (.struct _)=>true
  | _=>false)&&(match P.info? t with
  |some i=>(match i.methods.find? (·.name==name) with
   |some m=>m.path.isEmpty&&(match m.func with
    | some (g,p)=>Nat.beq g f&&!p
    | none=>false)
   | none=>false)
  | none=>false)
def zrN:List SV->(List Value->Prop)->Prop
 | [],K=>K []
 | .val v::r,K=>zrN r λvs=>K (v::vs)
 | _,_=>False
def conc(s:SV)(K:Value->Prop):Prop:=
 match s with
 | .val v=>K v
 | .agg cs=>zrN cs λvs=>K (.agg vs.toArray)
 | _=>False
def zrO:List SV->(List Value->Prop)->Prop
 | [],K=>K []
 | s::r,K=>conc s λv=>zrO r λvs=>K (v::vs)
def zvd:List SV->Bool
 | []=>true
 | .val _::r=>zvd r
 | _=>false
def zve:List SV->Bool
 | []=>true
 | .val _::r=>zve r
 | .agg cs::r=>uy (zvd cs) (zve r)
 | _=>false
def ofV(v:Value):SV:=
 match v with
 | .agg a=>.agg (a.toList.map .val)
 | v=>.val v
def opV(P:Program)(Γ:List (TypeId×TI))(op:Op)(svs:List SV)(lm:Nat->Option Mem)(κ:Nat)(K:SV->MD->Prop):Prop:=
 match op,svs with
 | .move _,[s]=>K s .none
 | .assign _,[s]=>K s .none
 | .pick _ _ _,[c,a,b]=>zva c a b K
 | .alloc e,_=>kE Γ e λi=>K (.loc κ 0) (.push (.box e (vals i.zero)))
 | .box e _,[s]=>boxV Γ e s κ K
 | .build t ps,svs=>zqy Γ t (ps.toList.map (·.1)) svs K
 | .buildSlice t n ps,svs=>zc3 Γ t n (ps.toList.map (·.1)) svs κ K
 | .load t _,[s]=>zu6 Γ t s lm K
 | .store t _ _,[s,v]=>zqv Γ t s v lm K
 |.nilCheck _,[s]=>(match s with
  | .loc k off=>K (.loc k off) .none
  | .ptr cs=>K (.ptr cs) .none
  | .dptr cs=>K (.dptr cs) .none
  | .eloc k sz i off=>K (.eloc k sz i off) .none
  | .ifc t s=>K (.ifc t s) .none
  | _=>False)
 | .binOp op t _ y _,[a,b]=>bin Γ op t y a b λs=>K s .none
 | .unOp op _ _,[s]=>unV op s K
 |.convert s0 t _,[s]=>kE Γ s0 λ_=>kE Γ t λi=>(match i.kind,s with
  | .int k,.val (.int _ n)=>zkP k n λs=>K s .none
  | _,_=>False)
 |.makeFunc fn first caps,svs=>(match fn with
  |.func f=>(match first.isEmpty with
   | true=>K (.fn f svs) .none
   |false=>zR caps.isEmpty (match zve svs with
    | true=>zrO svs λvs=>K (.val (.func (.func f) vs.toArray #[])) .none
    | false=>zR (ym.flats svs) (K (.bm f svs) .none)))
  | _=>False)
 | .makeSlice t _ _,[l,c]=>zeZ Γ t l c κ K
 | .slice t _ lo hi mx,svs=>zmx Γ t lo hi mx svs lm κ K
 | .fieldAddr t _ f,[s]=>zeX Γ t f s K
 |.field t _ f,[s]=>kE Γ t λi=>(match i.kind,s with
  |.struct fs,.agg cs=>(match znZ fs f with
   | some (off,ft)=>kE Γ ft λj=>zR (Nat.ble (off+j.sz) cs.length) (mkV j.kind.agg j.sz (cs.drop off) λs=>K s .none)
   | none=>False)
  | _,_=>False)
 | .indexAddr t _ _,[s,n]=>zeY Γ t s n lm K
 | .index t _ _,[s,n]=>zqx Γ t s n K
 |.extract _ n,[s]=>(match s with
  |.tup vs=>(match vs.drop n with
   | v::_=>zat v λv=>K v .none
   | []=>False)
  | _=>False)
 | .makeInterface t _,[s]=>ziO Γ t s K
 | .typeAssert _ _ t ok,[s]=>zmA Γ t ok s K
 | .makeMap t _,svs=>ziN Γ t svs κ K
 | .mapUpdate t _ _ _,[m,k,s]=>vF Γ t m k s lm K
 | .insert t _ _ _,[m,k,s]=>vF Γ t m k s lm K
 | .lookup t _ _ ok,[m,k]=>zmy Γ t ok m k lm K
 |.call c,svs=>(match c.callee with
  |.value _=>(match svs with
   | .fn f caps::args=>zb P lm κ f (args++caps) K
   | .val (.func (.func f) first ⟨[]⟩)::args=>zb P lm κ f (first.toList.map ofV++args) K
   | .dfn f caps::args=>zb P lm κ f (args++caps) K
   | .bm f first::args=>zb P lm κ f (first++args) K
   | _=>False)
  |.invoke _ name=>(match svs with
   | .ifc t s::args=>∃f,zmB P t name f=true/\zb P lm κ f (s::args) K
   | _=>False)
  | .builtin b=>ziM Γ b c.argTypes.toList svs lm κ K)
 | _,_=>False
def zc4(M:List (Nat×Mem))(κ k:Nat):Option Mem:=
 match Nat.blt k κ with
 | true=>zY M k
 | false=>none
def zla(d:Option Tmp)(nt:Nat)(K:Prop):Prop:=
 match d with
 | some d=>zR (Nat.blt d nt) K
 | none=>K
def zcT:Op->Bool
 | .load _ _=>true
 | .store _ _ _=>true
 | .slice _ _ _ _ _=>true
 | .indexAddr _ _ _=>true
 | .mapUpdate _ _ _ _=>true
 | .insert _ _ _ _=>true
 | .lookup _ _ _ _=>true
 | .call _=>true
 | _=>false
def zvf:Op->Bool
 |.call c=>(match c.callee with
  | .builtin .append=>true
  | .builtin .copy=>true
  | _=>false)
 | _=>false
def isW:Op->Bool
 | .store _ _ _=>true
 | .mapUpdate _ _ _ _=>true
 | .insert _ _ _ _=>true
 | o=>zvf o
def zc5:Op->Bool
 | .store _ _ _=>true
 | .alloc _=>true
 | .box _ _=>true
 | .buildSlice _ _ _=>true
 | .makeSlice _ _ _=>true
 | .makeMap _ _=>true
 | .mapUpdate _ _ _ _=>true
 | .insert _ _ _ _=>true
 | o=>zvf o
def zqz(acc:List Nat)(o:Oper):Nat:=o.after.toList.foldl (λs e=>if Region.binds .any e then s|||2 ^ e.on|||acc.getD e.on 0 else s) 0
def zbh(all:List Oper):Nat->List Nat
 | 0=>[]
 | j+1=>let acc:=zbh all j;acc++[match all[j]? with | some o=>zqz acc o | none=>0]
def zc6:List Oper->Nat->Option Tmp
 | [],_=>none
 | o::_,0=>o.dst
 | _::r,n+1=>zc6 r n
def zgO:List Operand->List Nat
 | []=>[]
 | .tmp t::r=>t::zgO r
 | _::r=>zgO r
def zci(all:List Oper)(o:Oper):List Nat:=
 zgO (qe o.op)++(match o.guard with
  |some (j,_)=>(match zc6 all j with
   | some t=>[t]
   | none=>[])
  | none=>[])
def uA(o:Oper):List Nat:=o.dst.toList
def zc7(a b:List Nat):Bool:=a.any λx=>b.any λy=>Nat.beq x y
def zto(all:List Oper)(oi oj:Oper):Bool:=
 (zc5 oi.op&&zcT oj.op)||(zcT oi.op&&isW oj.op)||zc7 (uA oi) (zci all oj)||zc7 (uA oi) (uA oj)||zc7 (zci all oi) (uA oj)
def zil(ops:List Oper):Bool:=
 (List.range ops.length).all λj=>(match ops[j]? with
  | some o=>o.after.toList.all λe=>!Region.binds .any e||Nat.blt e.on j
  | none=>true)
def vj(ops:List Oper):Bool:=
 let ms:=zbh ops ops.length
 zil ops&&(List.range ops.length).all λj=>(List.range j).all λi=>(ms.getD j 0).testBit i||!(match ops[i]?,ops[j]? with
  | some oi,some oj=>zto ops oi oj
  | _,_=>false)
def zmC(ops:List Oper)(i:Nat):Bool:=
 let ms:=zbh ops ops.length
 (List.range ops.length).all λj=>Nat.ble j i||(ms.getD j 0).testBit i||!(match ops[j]? with
  | some oj=>zcT oj.op
  | none=>false)
def mdV(draw:Bool)(all:List Oper)(i κ:Nat)(op:Op)(md:MD)(K:Prop):Prop:=
 match draw with
 | false=>K
 |true=>(match isW op with
  |true=>(match md with
   | .drop _=>False
   | .set k _=>zR (Nat.blt k κ) K
   | .repl k _=>zR (Nat.blt k κ) K
   | .give _ _ _=>False
   | _=>K)
  |false=>(match md with
   | .none=>K
   |.push _=>(match zc5 op with
    | true=>K
    | false=>Dr (zmC all i=true) K False)
   | _=>False))
def zvg(n:Nat):(Nat->Prop)->Prop:=
 Nat.rec (motive:=λ_=>(Nat->Prop)->Prop) (λK=>K 0) (λ_ ih K=>ih λm=>K (m+1)) n
theorem ze0:∀{n:Nat} {K:Nat->Prop},zvg n K->K n
 | 0,_,h=>h
 | n+1,_,h=>ze0 (n:=n) h
def zmD(l:List SV):(List SV->Prop)->Prop:=
 List.rec (motive:=λ_=>(List SV->Prop)->Prop) (λK=>K []) (λc _ ih K=>ih λr=>K (c::r)) l
theorem zbi:∀{l:List SV} {K:List SV->Prop},zmD l K->K l
 | [],_,h=>h
 | c::l,K,h=>zbi (l:=l) (K:=λr=>K (c::r)) h
def zmE(s:SV)(K:SV->Prop):Prop:=
 match s with
 | .agg cs=>zmD cs λcs=>K (.agg cs)
 | s=>K s
theorem zc8{s:SV}{K:SV->Prop}(h:zmE s K):K s:=by
 unfold zmE at h
 split at h
 ·exact zbi (K:=λcs=>K (.agg cs)) h
 ·exact h
def zmF(md:MD)(K:MD->Prop):Prop:=
 match md with
 |.push m=>(match m with
  | .box T cs=>zmD cs λcs=>K (.push (.box T cs))
  | m=>K (.push m))
 |.set k m=>(match m with
  | .box T cs=>zmD cs λcs=>K (.set k (.box T cs))
  | m=>K (.set k m))
 | md=>K md
theorem zc9{md:MD}{K:MD->Prop}(h:zmF md K):K md:=by
 unfold zmF at h
 split at h
 ·split at h
  ·rename_i T cs;exact zbi (K:=λcs=>K (.push (.box T cs))) h
  ·exact h
 ·rename_i k _;split at h
  ·rename_i T cs;exact zbi (K:=λcs=>K (.set k (.box T cs))) h
  ·exact h
 ·exact h
def St.withK(σ:St)(κ:Nat):St:=⟨σ.L,σ.M,κ,σ.nt,σ.n0⟩
def zda(P:Program)(Γ:List (TypeId×TI))(draw:Bool)(all:List Oper)(i:Nat)(o:Oper)(σ:St)(K:St->Prop):Prop:=
 zvg σ.nk λκ=>evs σ.L (qe o.op) λsvs=>opV P Γ o.op svs (zc4 σ.M κ) κ λs md=>zmE s λs=>zmF md λmd=>mdV draw all i κ o.op md (zla o.dst σ.nt (K ((σ.withK κ).app o.dst s md)))
def zaj(o:Oper)(σ:St)(K:St->Prop):Prop:=zla o.dst σ.nt (K (σ.app o.dst (.val undef) .none))
def u7(P:Program)(Γ:List (TypeId×TI))(draw:Bool)(all:List Oper)(l:List Oper):Nat->St->(St->Prop)->Prop:=
 List.rec (motive:=λ_=>Nat->St->(St->Prop)->Prop) (λ_ σ K=>K σ) (λo _ ih i σ K=>match o.guard with
  | none=>zda P Γ draw all i o σ λσ=>ih (i+1) σ K
  |some (j,want)=>(match zc6 all j with
   | none=>False
   |some t=>(match qc σ.L t with
    |some (.val (.bool true))=>(match want with
     | true=>zda P Γ draw all i o σ λσ=>ih (i+1) σ K
     | false=>zaj o σ λσ=>ih (i+1) σ K)
    |some (.val (.bool false))=>(match want with
     | false=>zda P Γ draw all i o σ λσ=>ih (i+1) σ K
     | true=>zaj o σ λσ=>ih (i+1) σ K)
    |some (.pr p _)=>(match want with
     | true=>Br (p->zda P Γ draw all i o (σ.put (some t) (.val (.bool true))) λσ=>ih (i+1) σ K)
       (¬p->zaj o (σ.put (some t) (.val (.bool false))) λσ=>ih (i+1) σ K)
     | false=>Br (p->zaj o (σ.put (some t) (.val (.bool true))) λσ=>ih (i+1) σ K)
       (¬p->zda P Γ draw all i o (σ.put (some t) (.val (.bool false))) λσ=>ih (i+1) σ K))
    | some (.val (.tuple _))=>zaj o σ λσ=>ih (i+1) σ K
    | _=>False))) l
def zzY:SV->List Nat
 | .loc k _=>[k]
 | .own k=>[k]
 | .eloc k _ _ _=>[k]
 | .win k _ _ _=>[k]
 | _=>[]
def zdb:List SV->List Nat
 | []=>[]
 | c::cs=>zzY c++zdb cs
def ziP:List SV->Bool
 | []=>true
 |c::cs=>(match c with
  | .val _=>ziP cs
  | .pr _ _=>ziP cs
  | .sl _ _=>ziP cs
  | _=>false)
def zgP:List SV->Bool
 | []=>true
 |c::cs=>(match c with
  | .val _=>zgP cs
  | .pr _ _=>zgP cs
  | .sl _ _=>zgP cs
  |.agg xs=>(match ziP xs with
   | true=>zgP cs
   | false=>false)
  |.fn _ xs=>(match ziP xs with
   | true=>zgP cs
   | false=>false)
  | _=>false)
def zn3(op:Op)(svs:List SV):Option (List Nat):=
 match op with
 |.call c=>(match c.callee with
  | .builtin _=>some (zdb svs)
  |_=>(match zgP svs with
   | true=>some []
   | false=>none))
 |.store _ _ _=>(match svs with
  | s::_=>some (zzY s)
  | []=>some [])
 | .load _ _=>some (zdb svs)
 | .slice _ _ _ _ _=>some (zdb svs)
 | .indexAddr _ _ _=>some (zdb svs)
 | .mapUpdate _ _ _ _=>some (zdb svs)
 | .insert _ _ _ _=>some (zdb svs)
 | .lookup _ _ _ _=>some (zdb svs)
 | _=>some []
structure Ent where
 u:Option (List Nat)
 nk:Nat
 t:List Nat
def zeA(k:Nat):List Nat->Bool
 | []=>false
 | x::r=>match Nat.beq x k with
  | true=>true
  | false=>zeA k r
def zdc(u:Option (List Nat))(nk k:Nat):Bool:=
 match u with
 | none=>Nat.blt k nk
 | some l=>zeA k l
def lmU(u:Option (List Nat))(nk:Nat)(lm:Nat->Option Mem)(k:Nat):Option Mem:=
 match zdc u nk k with
 | true=>lm k
 | false=>none
def zqA(κ:Nat):Nat->List Nat
 | 0=>[]
 | n+1=>(κ+n)::zqA κ n
def zgQ(κ:Nat):MD->List Nat
 | .none=>[]
 | .push _=>[κ]
 | .set k _=>[k]
 | .drop k=>[k]
 | .repl k _=>[k,κ]
 | .give ks _ nn=>ks++zqA κ nn
def zrP(e:Ent):List Nat->Bool
 | []=>false
 | k::r=>match zdc e.u e.nk k with
  | true=>true
  | false=>match zeA k e.t with
   | true=>true
   | false=>zrP e r
def zrQ(x:Ent):List Nat->Bool
 | []=>false
 | k::r=>match zdc x.u x.nk k with
  | true=>true
  | false=>zrQ x r
def zn4(x e:Ent):Bool:=
 match zrP e x.t with
 | true=>true
 | false=>zrQ x e.t
def prOK(m:Nat)(e:Ent):List Ent->Bool
 | []=>true
 | x::r=>(m.testBit r.length||!zn4 x e)&&prOK m e r
def ziQ(ms:List Nat):List Ent->Bool
 | []=>true
 | e::r=>prOK (ms.getD r.length 0) e r&&ziQ ms r
def ziR(all:List Oper)(oi oj:Oper):Bool:=
 zc7 (uA oi) (zci all oj)||zc7 (uA oi) (uA oj)||zc7 (zci all oi) (uA oj)
def ze1(ops:List Oper):Bool:=
 let ms:=zbh ops ops.length
 zil ops&&(List.range ops.length).all λj=>(List.range j).all λi=>(ms.getD j 0).testBit i||!(match ops[i]?,ops[j]? with
  | some oi,some oj=>ziR ops oi oj
  | _,_=>false)
def mdD(κ:Nat)(md:MD)(K:Prop):Prop:=
 match md with
 | .drop k=>zR (Nat.blt k κ) K
 | .set k _=>zR (Nat.blt k κ) K
 | .repl k _=>zR (Nat.blt k κ) K
 | .give ks new nn=>zR (uy (newB ks κ nn new) (zmu new κ nn)) K
 | _=>K
def zbj(P:Program)(Γ:List (TypeId×TI))(o:Oper)(σ:St)(K:Ent->St->Prop):Prop:=
 zvg σ.nk λκ=>evs σ.L (qe o.op) λsvs=>opV P Γ o.op svs (lmU (zn3 o.op svs) κ (zc4 σ.M κ)) κ λs md=>zmE s λs=>zmF md λmd=>mdD κ md (zla o.dst σ.nt (K ⟨zn3 o.op svs,κ,zgQ κ md⟩ ((σ.withK κ).app o.dst s md)))
def zlb:Ent:=⟨some [],0,[]⟩
def zaN(P:Program)(Γ:List (TypeId×TI))(all:List Oper)(l:List Oper):Nat->List Ent->St->(St->Prop)->Prop:=
 List.rec (motive:=λ_=>Nat->List Ent->St->(St->Prop)->Prop) (λ_ acc σ K=>Ob (ziQ (zbh all all.length) acc=true) (K σ)) (λo _ ih i acc σ K=>match o.guard with
  | none=>zbj P Γ o σ λe σ=>ih (i+1) (e::acc) σ K
  |some (j,want)=>(match zc6 all j with
   | none=>False
   |some t=>(match qc σ.L t with
    |some (.val (.bool true))=>(match want with
     | true=>zbj P Γ o σ λe σ=>ih (i+1) (e::acc) σ K
     | false=>zaj o σ λσ=>ih (i+1) (zlb::acc) σ K)
    |some (.val (.bool false))=>(match want with
     | false=>zbj P Γ o σ λe σ=>ih (i+1) (e::acc) σ K
     | true=>zaj o σ λσ=>ih (i+1) (zlb::acc) σ K)
    |some (.pr p _)=>(match want with
     | true=>Br (p->zbj P Γ o (σ.put (some t) (.val (.bool true))) λe σ=>ih (i+1) (e::acc) σ K)
       (¬p->zaj o (σ.put (some t) (.val (.bool false))) λσ=>ih (i+1) (zlb::acc) σ K)
     | false=>Br (p->zaj o (σ.put (some t) (.val (.bool true))) λσ=>ih (i+1) (zlb::acc) σ K)
       (¬p->zbj P Γ o (σ.put (some t) (.val (.bool false))) λe σ=>ih (i+1) (e::acc) σ K))
    | some (.val (.tuple _))=>zaj o σ λσ=>ih (i+1) (zlb::acc) σ K
    | _=>False))) l
inductive Ex
 | normal
 | exit (id:Nat)
 | ret
def Sub(σ σ':St):Prop:=∀(E:Env) ρ a w,Rel E σ ρ a w->∃ρ',Rel E σ' ρ' a w
def jK(P:Program)(Γ:List (TypeId×TI))(c:Code):St->(Ex->St->Prop)->Prop:=
 Code.rec (motive:=λ_=>St->(Ex->St->Prop)->Prop)
  (λσ Q=>Q .normal σ)
  (λ_ ops draw σ Q=>match draw with
   | false=>u7 P Γ false ops.toList ops.toList 0 σ (Q .normal)
   | true=>Dr (vj ops.toList=true) (u7 P Γ true ops.toList ops.toList 0 σ (Q .normal))
     (Ob (ze1 ops.toList=true) (zaN P Γ ops.toList ops.toList 0 [] σ (Q .normal))))
  (λ_ _ ha hb σ Q=>ha σ λe σ=>(match e with
   | .normal=>hb σ Q
   | .exit id=>Q (.exit id) σ
   | .ret=>Q .ret σ))
  (λc _ _ hx hy σ Q=>ev σ.L c λc=>(match c with
   | .val (.bool true)=>hx σ Q
   | .val (.bool false)=>hy σ Q
   | .pr p _=>Br (p->hx σ Q) (¬p->hy σ Q)
   | .anyb=>Br (hx σ Q) (hy σ Q)
   | _=>False))
  (λid _ hc σ Q=>hc σ λe σ=>(match e with
   | .normal=>Q .normal σ
   |.exit j=>(match Nat.beq j id with
    | true=>Q .normal σ
    | false=>Q (.exit j) σ)
   | .ret=>Q .ret σ))
  (λ_ hc σ Q=>∃(ι:Type) (S:ι->St) (I:ι->Prop) (μ:ι->Nat) (x0:ι),I x0/\Sub σ (S x0)/\
   ∀x,I x->hc (S x) λe σ'=>(match e with
    | .normal=>∃x',I x'/\Sub σ' (S x')/\μ x' < μ x
    | .exit id=>Q (.exit id) σ'
    | .ret=>Q .ret σ'))
  (λ_ _ _ _ _ _ _ _=>False)
  (λid σ Q=>Q (.exit id) σ)
  (λ_ hc σ Q=>hc σ Q)
  (λ_ σ Q=>Q .normal σ)
  (λ_ _ _=>False)
  (λσ Q=>Q .ret σ)
  (λ_ _ _=>False)
  c
def zqB(σ:St)(Γ:List (TypeId×TI))(x:ResultVar)(K:SV->Prop):Prop:=
 match x with
 |.tmp t=>(match qc σ.L t with
  | some s=>zat s λs=>K s
  | none=>False)
 |.cell a t=>kE Γ t λi=>(match qc σ.L a with
  |some (.loc k off)=>(match zY σ.M k with
   | some (.box _ cs)=>zR (Nat.ble (off+i.sz) cs.length) (mkV i.kind.agg i.sz (cs.drop off) λs=>K s)
   | _=>False)
  | _=>False)
def zvh(σ:St)(Γ:List (TypeId×TI))(xs:List ResultVar):(List SV->Prop)->Prop:=
 List.rec (motive:=λ_=>(List SV->Prop)->Prop) (λK=>K []) (λx _ ih K=>zqB σ Γ x λs=>ih λl=>K (s::l)) xs
def zbI(σ:St)(Γ:List (TypeId×TI))(rs:List ResultVar)(K:SV->Prop):Prop:=
 zvh σ Γ rs λl=>match l with
  | [s]=>K s
  | l=>K (.tup l)
def yb:Nat->List SV->List (Nat×SV)
 | _,[]=>[]
 | n,a::r=>(n,a)::yb (n+1) r
def zlc(lm:Nat->Option Mem)(s:SV):SV:=
 match s with
 | .tup cs=>.tup (zmr lm cs)
 | s=>zhF lm s
def endV(Γ:List (TypeId×TI))(rs:List ResultVar)(r:SV)(e:Ex)(σ:St):Prop:=
 match e with
 | .exit _=>False
 | _=>zbI σ Γ rs λs=>LE (zlc (zY σ.M) s) r
inductive zaO (k:Option Nat):SV->SV->Prop
 | own (k':Nat) (h:k=some k'):zaO k (.own k') (.own 0)
 | loc (k' off:Nat) (h:k=some k'):zaO k (.loc k' off) (.loc 0 off)
 | nil (h:k=none):zaO k (.val (.slice none 0 0)) (.own 0)
 | le (s r:SV) (h:LE s r) (hf:ym r=true):zaO k s r
 | junk (s:SV):zaO k s .junk
 | agg (cs ds:List SV) (hl:cs.length=ds.length) (h:∀(j:Nat) (s r:SV),cs[j]? =some s->ds[j]? =some r->zaO k s r):zaO k (.agg cs) (.agg ds)
 | tup (cs ds:List SV) (hl:cs.length=ds.length) (h:∀(j:Nat) (s r:SV),cs[j]? =some s->ds[j]? =some r->zaO k s r):zaO k (.tup cs) (.tup ds)
 | fn (f:FuncId) (cs ds:List SV) (hl:cs.length=ds.length) (h:∀(j:Nat) (s r:SV),cs[j]? =some s->ds[j]? =some r->zaO k s r):zaO k (.fn f cs) (.fn f ds)
def zvi(M:List (Nat×Mem))(k:Option Nat)(m:Mem):Prop:=
 match k with
 | some k=>zY M k=some m/\zhG m
 |none=>(match m with
  | .arr _ _ _ xs=>xs=[]
  | _=>False)
def zqC(Γ:List (TypeId×TI))(rs:List ResultVar)(r:SV)(m:Mem)(e:Ex)(σ:St):Prop:=
 match e with
 | .exit _=>False
 | _=>zbI σ Γ rs λs=>∃k,zaO k s r/\zvi σ.M k m
def zAw(Γ:List (TypeId×TI))(rs:List ResultVar)(r:SV)(m:Mem)(e:Ex)(σ:St):Prop:=
 match e with
 | .exit _=>False
 | _=>zbI σ Γ rs λs=>(zY σ.M 0=some m/\LE s r)
variable{w:World}{w':World}
theorem zgR{b o:Nat}(h:w'.heap[b]? =w.heap[b]?):w'.cell? ⟨b,o,none⟩=w.cell? ⟨b,o,none⟩:=by
 simp only[World.cell?,h]
theorem D.mono {S S':Nat->Prop}(hz:w.heap.size<=w'.heap.size)
  (hS:∀b,b < w.heap.size->¬S b->¬S' b/\w'.heap[b]? =w.heap[b]?) {s:SV} {v:Value} (h:D S w s v):D S' w' s v:=by
 induction h with
 | val v=>exact .val v
 | pr p i=>exact .pr p i
 | agg cs vs hl h ih=>exact .agg cs vs hl ih
 | nil enc a=>exact .nil enc a
 | nils a=>exact .nils a
 | anyb b=>exact .anyb b
 | junk v=>exact .junk v
 | full enc xs a h ih=>exact .full enc xs a ih
 | sl enc xs sz b o cap c hb hS' hlen hcap hsz hc h ih=>
  obtain⟨h1,h2⟩:=hS b hb hS';exact .sl enc xs sz b o cap c (Xq hb hz) h1 hlen hcap hsz (λi j hi hj=>by rw[zgR h2];exact hc i j hi hj) ih
 | dptr cs b o c hb hS' hc h ih=>
  obtain⟨h1,h2⟩:=hS b hb hS';exact .dptr cs b o c (Xq hb hz) h1 (λj hj=>by rw[zgR h2];exact hc j hj) ih
 | dfn f cs vs hl h ih=>exact .dfn f cs vs hl ih
 | bm f cs vs hl h ih=>exact .bm f cs vs hl ih
 | op v h=>exact .op v h
 | ifc t s v h ih=>exact .ifc t s v ih
theorem G.mono {S S' Pm Pm':Nat->Prop} {ρ ρ':zj} {w w':World} (hz:w.heap.size<=w'.heap.size)
  (hS:∀b,b < w.heap.size->¬S b->¬S' b/\w'.heap[b]? =w.heap[b]?)
  (hP:∀b,b < w.heap.size->¬Pm b->¬Pm' b/\w'.heap[b]? =w.heap[b]?)
  (hρ:∀k v,ρ k=some v->ρ' k=some v) {s:SV} {v:Value} (h:G S Pm ρ w s v):G S' Pm' ρ' w' s v:=by
 induction h with
 | d s v h=>exact .d s v (h.mono hz hS)
 | loc k off b h=>exact .loc k off b (hρ _ _ h)
 | own k v h h1=>exact .own k v (hρ _ _ h) h1
 | eloc k sz i off b len cap h=>exact .eloc k sz i off b len cap (hρ _ _ h)
 | win k sz lo n b len cap cap' h h1 h2=>exact .win k sz lo n b len cap cap' (hρ _ _ h) h1 h2
 | ptr cs b o c hb hP' hc h=>
  obtain⟨h1,h2⟩:=hP b hb hP';exact .ptr cs b o c (Xq hb hz) h1 (λj hj=>by rw[zgR h2];exact hc j hj) (λj s hs=>(h j s hs).mono hz hS)
 | agg cs vs hl h ih=>exact .agg cs vs hl ih
 | tup cs vs hl h ih=>exact .tup cs vs hl ih
 | fn f cs vs hl h ih=>exact .fn f cs vs hl ih
 | ifc t s v h ih=>exact .ifc t s v ih
theorem qb.refl(w:World):qb w w:=⟨rfl,λ_=>rfl⟩
theorem qb.trans{w w' w'':World}(h:qb w w')(k:qb w' w''):qb w w'':=⟨k.1.trans h.1,λa=>(k.2 a).trans (h.2 a)⟩
theorem qb.cells(w:World)(c:Array Value)(t:TypeId):qb w (w.alloc (.cells c t)):=⟨rfl,λa=>RowKit.frozen?_alloc_cells w c t a⟩
theorem qb.setRow(w:World)(g:Nat)(cs:Array Value):qb w (w.setRow g cs):=⟨rfl,λa=>by
 show World.frozen? { w with heap:=w.heap.modify g _ } a=_;unfold World.frozen?;simp only[Qf]
 by_cases h:g=a.block
 ·simp only[h,if_true]
  cases w.heap[a.block]? with
  | none=>rfl
  | some o=>cases o <;> rfl
 ·simp only[h,if_false]⟩
theorem Stp.refl{W:Nat->Prop}{ρ:zj}{w:World}:Stp W W ρ ρ w w:=⟨rfl,rfl,.refl _,Xh _,λ_ _ _=>rfl,λ_ h=>.inl h,λ_ _ h=>h⟩
theorem Stp.trans{W W' W'':Nat->Prop}{ρ ρ' ρ'':zj}{w w' w'':World}(h:Stp W W' ρ ρ' w w')(k:Stp W' W'' ρ' ρ'' w' w''):Stp W W'' ρ ρ'' w w'':=
 ⟨k.os.trans h.os,k.tape.trans h.tape,h.output.trans k.output,Xz h.size k.size,
  λb hb hn=>(k.block b (Xq hb h.size) (λhw=>(h.own b hw).elim hn (λh2=>by omega))).trans (h.block b hb hn),
  λb hb=>(k.own b hb).elim (h.own b) (λh2=>.inr (Xz h.size h2)),λk' v hv=>k.rho _ _ (h.rho _ _ hv)⟩
variable{Keep:Nat->Prop}{W:Nat->Prop}{W':Nat->Prop}{ρ:zj}{ρ':zj}
theorem G.stp(h:Stp W W' ρ ρ' w w') {s:SV} {v:Value}
  (hg:G (λb=>Keep b∨W b) W ρ w s v):G (λb=>Keep b∨W' b) W' ρ' w' s v:=
 hg.mono h.size (λb hb hn=>⟨λhw=>hw.elim (λhk=>hn (.inl hk)) (λhw=>(h.own b hw).elim (λh1=>hn (.inr h1)) (λh2=>by omega)),h.block b hb (λhw=>hn (.inr hw))⟩)
  (λb hb hn=>⟨λhw=>(h.own b hw).elim hn (λh2=>by omega),h.block b hb hn⟩) h.rho
theorem D.stp(h:Stp W W' ρ ρ' w w') {s:SV} {v:Value}
  (hg:D (λb=>Keep b∨W b) w s v):D (λb=>Keep b∨W' b) w' s v:=
 hg.mono h.size (λb hb hn=>⟨λhw=>hw.elim (λhk=>hn (.inl hk)) (λhw=>(h.own b hw).elim (λh1=>hn (.inr h1)) (λh2=>by omega)),h.block b hb (λhw=>hn (.inr hw))⟩)
def qE(P:Program)(o:Oper)(a:Act)(w:World)(R:Value->World->Prop):Prop:=
 o.wp P a w (λa' w'=>∃v,a'=a.put o.dst v/\R v w') (λ_ _ _=>False)
theorem qE.value {P:Program} {o:Oper} {a:Act} {w w':World} {R:Value->World->Prop} {v:Value}
  (h:(execOp a.eval o).run P w=.ok (.value v) w') (hr:R v w'):qE P o a w R:=by
 unfold qE Oper.wp;rw[h];exact⟨v,rfl,hr⟩
theorem qE.skip {P:Program} {o:Oper} {a:Act} {w w':World} {R:Value->World->Prop}
  (h:(execOp a.eval o).run P w=.ok .skip w') (hr:R undef w'):qE P o a w R:=by
 unfold qE Oper.wp;rw[h];exact⟨undef,rfl,hr⟩
theorem qE.call{o:Oper} {a:Act}{R:Value->World->Prop}{args:Array Value}
  (h:(execOp a.eval o).run P w=.ok (.enter f args) w') (hc:Calls P f args w' λe w''=>∃v,e=.returned v/\R v w''):qE P o a w R:=by
 unfold qE Oper.wp;rw[h];refine hc.mono ?_
 rintro e w'' ⟨v,rfl,hr⟩
 exact⟨v,rfl,hr⟩
theorem qE.wp {P:Program} {o:Oper} {a:Act} {w:World} {R:Value->World->Prop} {K:Act->World->Prop} {Q:Exit->Act->World->Prop}
  (h:qE P o a w R) (hk:∀v w',R v w'->K (a.put o.dst v) w'):o.wp P a w K Q:=by
 unfold qE Oper.wp at*;generalize (execOp a.eval o).run P w=r at*
 cases r with
 | ok n w'=>
  cases n <;> simp only[Oper.upon]at h ⊢
  case value v=>obtain⟨u,e,hr⟩:=h;rw[e];exact hk u w' hr
  case skip=>obtain⟨u,e,hr⟩:=h;rw[e];exact hk u w' hr
  case defer d=>obtain⟨u,e,hr⟩:=h;rw[e];exact hk u w' hr
  case enter f args=>
   refine Calls.mono h ?_;intro e w'' he
   cases e with
   | returned v=>obtain⟨u,e,hr⟩:=he;show K (a.put o.dst v) w'';rw[e];exact hk u w'' hr
   | panicked c=>exact he.elim
   | outgrown=>obtain⟨_,_,hf⟩:=he;exact hf.elim
  case row row args=>
   exact Rows.mono h (λv w' ⟨u,e,hr⟩=>by show K (a.put o.dst v) w';rw[e];exact hk u w' hr)
 | halt x w'=>cases x <;> simp only[Oper.upon]at h
def k7(Keep:Nat->Prop)(M:List (Nat×Mem))(ρ:zj)(w:World)(κ:Nat)(s:SV)(md:MD)(v:Value)(w':World):Prop:=
 ∃ρ',Stp (Own M ρ) (Own (zca M κ md) ρ') ρ ρ' w w'/\zN Keep (zca M κ md) ρ' w'/\
  G (λb=>Keep b∨Own (zca M κ md) ρ' b) (Own (zca M κ md) ρ') ρ' w' s v/\∀k,(k < κ∨zaL κ md<=k)->ρ' k=ρ k
def zvj:MD->Bool
 | .push _=>true
 | .repl _ _=>true
 | _=>false
def yG(P:Program)(op:Op)(svs:List SV)(lm:Nat->Option Mem)(κ:Nat)(s:SV)(md:MD):Prop:=
 ∀(o:Oper),o.op=op->∀(Keep:Nat->Prop) (M:List (Nat×Mem)) (ρ:zj) (a:Act) (w:World),
  (∀k m,lm k=some m->zY M k=some m)->zN Keep M ρ w->(∀k,κ<=k->k < zaL κ md->ρ k=none)->(zvj md=true->∀m,(κ,m)∉M)->
  Gs (λb=>Keep b∨Own M ρ b) (Own M ρ) ρ w svs ((qe op).map a.eval)->qE P o a w (k7 Keep M ρ w κ s md)
theorem zA{M:List (Nat×Mem)}{k:Nat}{m:Mem}(h:zY M k=some m):(k,m)∈M:=by
 induction M with
 | nil=>simp[zY]at h
 | cons x r ih=>
  obtain⟨k',m'⟩:=x;simp only[zY]at h
  split at h
  ·rename_i hb;have:=Xf hb
   cases h;subst this;exact .head _
  ·exact .tail _ (ih h)
theorem k7.same {Keep:Nat->Prop} {M:List (Nat×Mem)} {ρ:zj} {w:World} {κ:Nat} {s:SV} {v:Value} (hm:zN Keep M ρ w)
  (hg:G (λb=>Keep b∨Own M ρ b) (Own M ρ) ρ w s v):k7 Keep M ρ w κ s .none v w:=
 ⟨ρ,.refl,hm,hg,λ_ _=>rfl⟩
end Go.Gs
